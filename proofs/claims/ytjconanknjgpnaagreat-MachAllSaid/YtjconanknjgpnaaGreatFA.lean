/-
  A symbol as a number, a number as a value: short names for trees.
-/
import Derived.Test.YtjconanknjgpnaaGreatSyK
import Derived.Test.YtjconanknjgpnaaGreatRows
import Derived.KernelRfl
import Derived.Test.YtjconanknjgpnaaGreatSyD
import Derived.Test.YtjconanknjgpnaaGreatSzA
import Derived.WalkKit
import Derived.ProofKit
import Derived.Laws.Externs
import Derived.Lib.Hide
namespace Go.Proofs.YtjconanknjgpnaaGreat.vars
open Go Go.Sx
instance symN (n:Nat):OfNat AV n:=⟨.sym n⟩
abbrev J (n:Int):AV:=.int .i64 n
abbrev K (o:XOp) (a:List AV) (i:Nat) (t:VT):VT:=.lt o a i none t
abbrev Q0:XOp:=.bin .eql 3 false true
abbrev Li (o:XOp) (a:List AV) (n:Nat) (t:VT):VT:=.lt o a n none t
abbrev It (o:XOp) (a:List AV) (n:Nat) (A B:VT):VT:=.lt o a n none (.ite n A B)
abbrev Iq (i:Nat) (k:Int) (n:Nat) (A B:VT):VT:=.lt Q0 [.sym i,J k] n none (.ite n A B)
abbrev Dn (l:List AV):VT:=.done (.tup (J 0::l))
abbrev Cf (f:FuncId) (t:FT) (h:List AV) (n k:Nat) (b:VT):VT:=.callF f t h n (.cons k b .nil)
abbrev Q1:XOp:=.inb
abbrev Q2:XOp:=.bin .add 3 false true
abbrev Q3:XOp:=.un .not
abbrev Q4:XOp:=.bin .lss 3 false false
abbrev Q5:XOp:=.bin .neq 35 false true
abbrev Q6:XOp:=.bin .neq 3 false true
abbrev Q7:XOp:=.bin .neq 3 false false
abbrev Q8:XOp:=.bin .neq 2 false true
abbrev Q9:XOp:=.ldx 46 3 0
abbrev Qa:XOp:=.iaddr 47
abbrev Qb:XOp:=.iaddr 31
abbrev Qc:XOp:=.bin .gtr 3 false true
abbrev Qd:XOp:=.load 49
abbrev Qe:XOp:=.len 47
abbrev Qf:XOp:=.len 127
abbrev Qg:XOp:=.app 3 24
abbrev Qh:XOp:=.bin .sub 3 false true
abbrev Qi:XOp:=.ldx 3 10 1
abbrev Qj:XOp:=.app 10 112
abbrev Qk:XOp:=.bin .eql 3 false false
abbrev Ql:XOp:=.len 22
abbrev Qm:XOp:=.load 46
abbrev Qn:XOp:=.ldx 3 1 0
abbrev Qo:XOp:=.bin .geq 2 false false
abbrev Qp:XOp:=.len 31
abbrev Qq:XOp:=.bin .eql 2 false false
abbrev Qr:XOp:=.ldx 2 3 1
abbrev Qs:XOp:=.app 7 56
abbrev Qt:XOp:=.bin .eql 2 false true
abbrev Qu:XOp:=.load 3
abbrev Qv:XOp:=.bin .add 3 false false
abbrev Qw:XOp:=.bin .leq 3 false true
abbrev Qx:XOp:=.iaddr 26
abbrev Qy:XOp:=.conv 2 101
abbrev Qz:XOp:=.bin .eql 35 false true
abbrev Z0:XOp:=.conv 5 3
abbrev Z1:XOp:=.bin .geq 3 false true
abbrev Z2:XOp:=.bin .lss 2 false true
abbrev Z3:XOp:=.stx 46 3 0
abbrev Z4:XOp:=.opn 21 3
abbrev Z5:XOp:=.conv 23 2
abbrev Z6:XOp:=.bin .lss 3 false true
abbrev Z7:XOp:=.load 2
abbrev Z8:XOp:=.len 61
abbrev Z9:XOp:=.bin .add 3 true false
abbrev Za:XOp:=.len 26
abbrev Zb:XOp:=.un .neg
abbrev Zc:XOp:=.bin .eql 35 false false
abbrev Zd:XOp:=.faddr 46 1
abbrev Ze:XOp:=.faddr 49 1
abbrev Zf:XOp:=.bin .sub 2 false false
abbrev Zg:XOp:=.conv 2 44
abbrev Zh:XOp:=.ldx 3 3 0
abbrev Zi:XOp:=.iaddr 40
abbrev Zj:XOp:=.load 9
abbrev Zk:XOp:=.bin .rem 2 false false
abbrev Zl:XOp:=.faddr 46 0
abbrev Zm:XOp:=.app 27 336
abbrev Zn:XOp:=.mget 186 [(.str [111],J 2,0),(.str [120],J 2,1),(.str [113],J 1,2),(.str [121],J 3,3),(.str [122],J 5,4),(.str [119],J 4,5)]
abbrev Zo:XOp:=.ldx 49 10 0
abbrev Zp:XOp:=.stx 49 10 0
abbrev Zq:XOp:=.load 52
abbrev Zr:XOp:=.bin .leq 2 false false
abbrev Zs:XOp:=.bin .add 2 false false
abbrev Zt:XOp:=.bin .neq 44 false false
abbrev Zu:XOp:=.bin .sub 101 false false
abbrev Zv:XOp:=.mm false
abbrev Zw:XOp:=.conv 101 2
abbrev Zx:XOp:=.bin .eql 31 false true
abbrev Zy:XOp:=.load 26
abbrev Zz:XOp:=.stx 3 7 2
abbrev U0:XOp:=.bin .neq 2 false false
abbrev U1:XOp:=.bin .quo 2 false false
abbrev U2:XOp:=.bin .lss 44 false false
abbrev U3:XOp:=.bin .rem 5 false true
abbrev U4:XOp:=.bin .rem 3 false false
abbrev U7:XOp:=.bin .lss 2 false false
abbrev U8:XOp:=.bin .mul 2 false false
abbrev U9:XOp:=.bin .add 44 false false
abbrev Ua:XOp:=.bin .sub 44 false false
abbrev Ub:XOp:=.bin .mul 44 false false
abbrev Uc:XOp:=.bin .quo 44 false false
abbrev Ud:XOp:=.bin .eql 44 false false
abbrev Ue:XOp:=.bin .leq 44 false false
abbrev Uh:XOp:=.bin .gtr 2 false false
abbrev Ui:XOp:=.bin .add 2 false true
abbrev Uj:XOp:=.bin .eql 4 false false
abbrev Uk:XOp:=.bin .gtr 101 false false
abbrev Up:XOp:=.bin .sub 3 false false
end Go.Proofs.YtjconanknjgpnaaGreat.vars
set_option linter.unusedVariables false
namespace Go.Proofs.YtjconanknjgpnaaGreat.vars
open Go Go.Sx
def hs:Nat->Nat->List AV
 |_,0=>[]
 |j,n+1=>.slx j 0 0::hs (j+1) n
def pk (a b:AV):Nat×List AV:=(0,[a,b])
def ft39:FT:=⟨1,⟨[(0,.ptr 0 0),(1,.slx 2 0 0)],[pk (.slx 0 0 0) (.slx 1 0 0)],1,3,[],[],[]⟩,[(false,⟨[(0,.slx 0 0 0)],[pk (.sym 64) (.slx 1 0 0)],1,2,[],[],[]⟩)]⟩
def ftX:FT:=⟨1,⟨[(0,.ptr 0 0),(1,.slx 2 0 0),(2,.slx 3 0 0)],[pk (.slx 0 0 0) (.slx 1 0 0)],1,4,[],[],[]⟩,[(false,⟨[(0,.agg (hs 0 10))],[pk (.sym 64) (.slx 10 0 0)],1,11,[],[],[]⟩)]⟩
def p_:FT:=ftX
def w0_:FT:=ftX
def ft112:FT:=⟨1,⟨[(0,.ptr 0 0),(1,.slx 2 0 0)],[pk (.slx 0 0 0) (.slx 1 0 0)],1,3,[],[],[]⟩,[(false,⟨[(0,.agg (hs 0 27))],[pk (.sym 64) (.slx 27 0 0)],1,28,[],[],[]⟩)]⟩
def ft70:FT:=⟨1,⟨[(0,.ptr 0 0),(1,.slx 2 0 0),(2,.slx 3 0 0)],[pk (.slx 0 0 0) (.slx 1 0 0)],1,4,[],[],[]⟩,[(false,⟨[(0,.slx 1 27 0)],[pk (.sym 64) (.slx 1 0 0)],2,2,[⟨1,27,0,0,none⟩],[],[]⟩)]⟩
def ft38:FT:=⟨1,⟨[(0,.ptr 0 0)],[pk (.slx 0 0 0) (.slx 1 0 0)],1,2,[],[],[]⟩,[(false,⟨[(0,.agg (hs 0 2))],[pk (.sym 64) (.slx 2 0 0)],1,3,[],[],[]⟩)]⟩
def ft14:FT:=⟨0,⟨[(0,.slx 0 0 0)],[],0,1,[],[],[]⟩,[(false,⟨[(0,.ptr 0 0)],[pk (.sym 64) (.int .i64 0)],1,0,[],[],[]⟩)]⟩
def ft121:FT:=⟨0,⟨[(0,.slx 0 0 0),(1,.agg (hs 1 10))],[],0,11,[],[],[]⟩,[(false,⟨[(0,.tup [.agg (hs 0 10),.slx 10 0 0])],[],0,11,[],[],[]⟩)]⟩
def y2_:FT:=ft121
def ft156:FT:=⟨0,⟨[(0,.slx 0 0 0),(1,.agg (hs 1 10)),(2,.slx 11 0 0)],[],0,12,[],[],[]⟩,[(false,⟨[(0,.tup [.agg (hs 0 10),.slx 10 0 0])],[],0,11,[],[],[]⟩)]⟩
def ft78:FT:=⟨0,⟨[(0,.slx 0 0 0),(1,.agg (hs 1 27))],[],0,28,[],[],[]⟩,[(false,⟨[(0,.tup [.agg (hs 0 27),.slx 27 0 0])],[],0,28,[],[],[]⟩)]⟩
def y0_:FT:=ft78
def y1_:FT:=ft78
def ft46:FT:=⟨0,⟨[(0,.slx 0 0 0),(1,.slx 1 0 0)],[],0,2,[],[],[]⟩,[(false,⟨[(0,.tup [.slx 0 0 0,.slx 1 0 0])],[],0,2,[],[],[]⟩)]⟩
def ft19:FT:=⟨0,⟨[(0,.agg (hs 0 2))],[],0,2,[],[],[]⟩,[(false,⟨[(0,.tup [.agg (hs 0 2),.slx 2 0 0])],[],0,3,[],[],[]⟩)]⟩
def ft13:FT:=⟨0,⟨[(0,.slx 0 0 0)],[],0,1,[],[],[]⟩,[(false,⟨[(0,.tup [.agg (hs 0 2),.slx 2 0 0])],[],0,3,[],[],[]⟩)]⟩
def ft56:FT:=⟨0,⟨[(0,.slx 0 7 0),(1,.slx 1 0 0)],[],1,2,[⟨0,7,0,0,none⟩],[],[]⟩,[(false,⟨[(0,.slx 0 7 0)],[],1,1,[⟨0,7,0,0,none⟩],[],[]⟩)]⟩
def ft91:FT:=⟨0,⟨[(0,.slx 0 7 0),(1,.agg (hs 1 27))],[],1,28,[⟨0,7,0,0,none⟩],[],[]⟩,[(false,⟨[(0,.slx 0 7 0)],[],1,1,[⟨0,7,0,0,none⟩],[],[]⟩)]⟩
def ft163:FT:=⟨0,⟨[(0,.slx 0 0 0)],[],0,1,[],[],[]⟩,[(true,⟨[(0,.iface 226 (.agg [.slx 0 0 0]))],[],0,1,[],[],[]⟩)]⟩
def ft165:FT:=⟨0,⟨[(0,.slx 0 0 0),(1,.slx 1 0 0),(2,.slx 2 0 0)],[],0,3,[],[],[]⟩,[(false,⟨[(0,.slx 0 0 0)],[],0,1,[],[],[]⟩),(true,⟨[(0,.iface 226 (.agg [.slx 0 0 0]))],[],0,1,[],[],[]⟩)]⟩
def yh_:FT:=ft165
def ft40:FT:=⟨1,⟨[(0,.ptr 0 0),(1,.slx 2 0 0)],[pk (.slx 0 0 0) (.slx 1 0 0)],1,3,[],[],[]⟩,[(false,⟨[(0,.agg (hs 0 3))],[pk (.sym 64) (.slx 3 0 0)],1,4,[],[],[]⟩)]⟩
def ft71:FT:=⟨1,⟨[(0,.ptr 0 0)],[pk (.slx 0 0 0) (.slx 1 0 0)],1,2,[],[],[]⟩,[(false,⟨[(0,.slx 0 0 0)],[pk (.sym 64) (.slx 1 0 0)],1,2,[],[],[]⟩)]⟩
def AM_:FT:=ft39
def ft15:FT:=⟨1,⟨[(0,.ptr 0 0)],[pk (.slx 0 0 0) (.slx 1 0 0)],1,2,[],[],[]⟩,[(false,⟨[(0,.slx 1 3 0)],[pk (.sym 64) (.slx 1 0 0)],2,2,[⟨1,3,0,0,none⟩],[],[]⟩)]⟩
def ft61:FT:=⟨1,⟨[(0,.slx 0 3 0),(1,.slx 1 0 0),(2,.slx 2 0 0),(3,.slx 1 3 3),(4,.slx 4 0 0)],[],2,5,[⟨0,3,0,0,none⟩,⟨1,3,3,3,none⟩],[],[]⟩,[(false,⟨[(0,.tup [])],[],1,1,[],[],[(0,1503)]⟩)]⟩
def sy (n m:Nat):List AV:=ah_ n m
def wL_ (kd ad:Int):List AV:=[.slx 0 3 64,.int .i64 kd,.int .i64 ad,.slx 1 3 67,.sym 68]
def heap61:AHeap:=ft61.ent.heap 64
def ftB (kd off n w:Nat) (tm:Bool):FT:=⟨1,⟨[(0,.int .i64 (.ofNat kd)),(1,.sl 0 off n 3 none),(2,.slx 63 0 0),(3,.slx 64 0 0)]++(match tm with|true=>[(4,.slx 65 0 0)]|false=>[]),[(0,hs 0 63)],1,(match tm with|true=>66|false=>65),[],[],[]⟩,
 [(false,⟨[(0,.sl 1 0 n 3 none)],[(0,ah_ 64 63),(1,hs 0 w)],2,w,[],[],[]⟩)]⟩
def w4_:FT:=ftB 6 36 4 12 true
def AO_:FT:=ftB 9 48 3 9 true
def AP_:FT:=ftB 11 57 2 6 true
def w2_:FT:=ftB 9 48 3 9 false
def w3_:FT:=ftB 11 57 2 6 false
end Go.Proofs.YtjconanknjgpnaaGreat.vars
set_option maxRecDepth 100000
set_option linter.unusedVariables false
set_option linter.unusedSimpArgs false
namespace Go.Proofs.YtjconanknjgpnaaGreat.vars
open Go Go.Sx
instance gI:Gl:=glT gl0 nr0 []
theorem mo:Tryz.prog.follows .mixedOrders=true:=by kernel_rfl
theorem ov:no_ Tryz.prog:=vG_ gl0 nr0 _
inductive GX where
 |mk (op kd:Int) (nm fd:List UInt8) (ad n vk vi:Int) (vf:Nat) (args:List GX)
mutual
def m_:GX->List AV
 | .mk op kd nm fd ad n vk vi vf args=>[.int .i64 op,.int .i64 kd,.str nm,.str fd,.int .i64 ad,.int .i64 n,.int .i64 vk,.int .i64 vi,.flt .f64 vf,T_ args]
def T_:List GX->AV
 |[]=>.nsl
 |a::r=>.vsl (r.length+1) 10 (m_ a++uW_ r)
def uW_:List GX->List AV
 |[]=>[]
 |a::r=>m_ a++uW_ r
end
theorem xB_:∀l:List GX,uW_ l=aR_ m_ l
 |[]=>rfl
 |a::r=>by simp only [uW_,aR_,xB_ r]
theorem vt_ (l:List GX):T_ l=a5_ m_ 10 l:=by
 cases l with
 |nil=>rfl
 |cons a r=>simp only [T_,a5_,aR_,xB_]
theorem nQ_ (x:GX):(m_ x).length=10:=by cases x;simp [m_]
mutual
theorem okX:∀x:GX,okL (m_ x)=true
 | .mk op kd nm fd ad n vk vi vf args=>by simp only [m_,okL,okC,okA args]
theorem okA:∀l:List GX,okC (T_ l)=true
 |[]=>rfl
 |a::r=>by simp only [T_,okC];exact kS_.okL_join (okX a) (xH_ r)
theorem xH_:∀l:List GX,okL (uW_ l)=true
 |[]=>rfl
 |a::r=>by simp only [uW_];exact kS_.okL_join (okX a) (xH_ r)
end
inductive GS where
 |mk (op:Int) (to e:GX) (thn els:List GS) (nm:List UInt8) (kd ad:Int) (args:List GX)
mutual
def pY_:GS->List AV
 | .mk op to e thn els nm kd ad args=>.int .i64 op::(m_ to++(m_ e++[P_ thn,P_ els,.str nm,.int .i64 kd,.int .i64 ad,T_ args]))
def P_:List GS->AV
 |[]=>.nsl
 |a::r=>.vsl (r.length+1) 27 (pY_ a++xa_ r)
def xa_:List GS->List AV
 |[]=>[]
 |a::r=>pY_ a++xa_ r
end
theorem xA_:∀l:List GS,xa_ l=aR_ pY_ l
 |[]=>rfl
 |a::r=>by simp only [xa_,aR_,xA_ r]
theorem wG_ (l:List GS):P_ l=a5_ pY_ 27 l:=by
 cases l with
 |nil=>rfl
 |cons a r=>simp only [P_,a5_,aR_,xA_]
theorem AV_ (x:GS):(pY_ x).length=27:=by cases x;simp [pY_,nQ_]
mutual
theorem okS:∀x:GS,okL (pY_ x)=true
 | .mk op to e thn els nm kd ad args=>by simp only [pY_];refine kS_.okL_join (a:=[_]) rfl (kS_.okL_join (okX to) (kS_.okL_join (okX e) ?_));simp only [okL,okC,okA args,okB thn,okB els]
theorem okB:∀l:List GS,okC (P_ l)=true
 |[]=>rfl
 |a::r=>by simp only [P_,okC];exact kS_.okL_join (okS a) (B0_ r)
theorem B0_:∀l:List GS,okL (xa_ l)=true
 |[]=>rfl
 |a::r=>by simp only [xa_];exact kS_.okL_join (okS a) (B0_ r)
end
def Ari (op:Int) (n:Nat):Prop:=(op=1\/op=2)/\n=0\/(op=3\/op=15\/op=16\/op=17)/\n=1\/(4<=op/\op<=14)/\n=2
def yV_ (f:Nat):Prop:=f=0\/f=4609434218613702656\/f=4611686018427387904\/f=4598175219545276416
def GX.op:GX->Int| .mk op .. =>op
def GX.kd:GX->Int| .mk _ kd .. =>kd
def wO_:List (List UInt8×List UInt8):=[([98],[]),([113],[]),([116,109],[113]),([97],[]),([120],[]),([111],[]),([99],[99,118]),([121],[]),([116,109],[101,116]),([119],[]),([122],[])]
def pW_ (vk vi:Int) (vf:Nat):Prop:=(vk=1\/vk=3\/vk=4\/vk=5)/\0<=vi/\vi<50/\(vk=1->vi<=1)/\(vk=5->vi=0)/\(vk≠5->vf=0)
def Nod (op kd:Int) (nm fd:List UInt8) (vk vi:Int) (vf:Nat):Prop:=(op=1->pW_ vk vi vf)/\(op=2->(nm,fd)∈wO_)/\(op=3->nm=[107])/\(op=17->2<=kd/\kd<=5)
def WX:Nat->GX->Prop
 |0,_=>False
 |d+1,.mk op kd nm fd _ _ vk vi vf args=>Ari op args.length/\yV_ vf/\Nod op kd nm fd vk vi vf/\∀a∈args,WX d a
theorem e_:∀{d e:Nat} {x:GX},d<=e->WX d x->WX e x
 |0,_,_,_,h=>h.elim
 |d+1,0,_,h,_=>by omega
 |d+1,e+1,.mk ..,h,⟨h1,h2,h3,h4⟩=>⟨h1,h2,h3,λa ha=>e_ (by omega) (h4 a ha)⟩
def WS:Nat->GS->Prop
 |0,_=>False
 |d+1,.mk op to e thn els nm kd ad args=>
  (op=1/\WX 5 to/\(to.op=2\/to.op=3)/\WX 6 e/\thn=[]/\els=[])\/
  ((op=2\/op=3)/\WX 5 e/\thn.length<=5/\els.length<=5/\(∀s∈thn,WS d s)/\∀s∈els,WS d s)\/
  (op=4/\(nm=[116,109]\/nm=[99]\/nm=[101])/\args.length<=2/\(∀a∈args,WX 5 a)/\thn=[]/\els=[])
def v4_ (c:UInt8):List AV:=[.int .u8 (c.toNat:Int)]
theorem DH_ (c:UInt8):(v4_ c).length=1:=rfl
theorem wt_ (c:UInt8):okL (v4_ c)=true:=rfl
def Pk (l:List UInt8) (a:AV):Prop:=SlV v4_ 1 l a/\l.length<=9223372036854775807
section
variable {l:List UInt8} {a:AV}
theorem ze_ (h:Pk l a):(XOp.len 22).run Tryz.prog [a]=some (.int .i64 (l.length:Int)):=h.1.len Tryz.underlying22
theorem DG_ (h:Pk l a) {i:Nat} (hi:i<l.length) {k:IntKind}:(XOp.iaddr 22).run Tryz.prog [a,.int k (i:Int)]=some (.vptr (aR_ v4_ (l.drop i))):=h.1.ia (e:=5) Tryz.underlying22 (ti:=(Tryz.prog.info? 5).get!) (by kernel_rfl) (by kernel_rfl) DH_ hi k
theorem ld5 {i:Nat} (hi:i<l.length):(XOp.load 5).run Tryz.prog [.vptr (aR_ v4_ (l.drop i))]=some (.int .u8 (l[i].toNat:Int)):=by rw [List.drop_eq_getElem_cons hi];exact sW_ Tryz.underlying5 rfl _ _
end
theorem BC_ (n:Nat) (h:n<256):(XOp.conv 5 3).run Tryz.prog [.int .u8 (n:Int)]=some (.int .i64 (n:Int)):=by rw [tD_ Tryz.underlying5 Tryz.underlying3,vK_ (by omega) (by omega)]
theorem z2_ (x m:Nat) (h:0<m) (h2:m<9223372036854775808) (t:TypeId) (cx cy:Bool):(XOp.bin .rem t cx cy).run Tryz.prog [.int .i64 (x:Int),.int .i64 (m:Int)]=some (.int .i64 ((x%m:Nat):Int)):=by
 have:(x:Int).tmod (m:Int)=((x%m:Nat):Int):=by rw [Int.tmod_eq_emod_of_nonneg (by omega)];rfl
 show bC_ Tryz.prog .rem t cx cy (.int .i64 (x:Int)) (.int .i64 (m:Int))=_;exact sV_ (by omega) this t cx cy
theorem g_ {x y:Int} {t:TypeId} {cx cy:Bool} (h1: -9223372036854775807<=x+y) (h2:x+y<=9223372036854775807):(XOp.bin .add t cx cy).run Tryz.prog [.int .i64 x,.int .i64 y]=some (.int .i64 (x+y)):=by rw [run_add,vK_ (by omega) (by omega)]
theorem G_ {x y z:Int} {t:TypeId} {cx cy:Bool} (h:x-y=z) (h1: -9223372036854775807<=z) (h2:z<=9223372036854775807):(XOp.bin .sub t cx cy).run Tryz.prog [.int .i64 x,.int .i64 y]=some (.int .i64 z):=by rw [run_sub,h,vK_ (by omega) (by omega)]
def RN (l:List UInt8) (m:Nat):Nat->List AV->Prop:=λ_ ws=>∃v n:Nat,ws=[.int .i64 (v:Int),.int .i64 (n:Int)]/\v<m/\n<=l.length
def c39:VC:=⟨⟨[],[]⟩,[],[],1,true,[]⟩
def t39:VT:=Li Ql [64] 67<|It (.bin .geq 3 false false) [65,67] 68 (Dn [J 0,65])<|Li Q2 [65,J 1] 69<|Li Qh [69,J 1] 70<|Li (.iaddr 22) [64,70] 71<|Li (.load 5) [71] 72<|Li Z0 [72] 73<|Li U4 [73,66] 74<|Dn [74,69]
theorem p39 {l:List UInt8} {a:AV} {n m:Nat} (h:Pk l a) (hn:n<=l.length) (hm:0<m) (hm2:m<=1000):CF Tryz.prog 39 ft39 [a,.int .i64 (n:Int),.int .i64 (m:Int)] (RN l m):=by
 have hb:=h.2;refine vh_ (c:=c39) (n:=300) (t:=t39) mo ov rfl (λY _=>vC_ _) (by kernel_rfl) λY hf hg=>?_;unfold t39;refine vv_ (ze_ h) rfl (vv_ (run_geq ..) rfl (ve_ rfl (λh1=>VOK_fin rfl ⟨0,n,rfl,hm,hn⟩) (λh1=>?_)));have h1:n<l.length:=by simpa using h1
 refine vv_ (g_ (by omega) (by omega)) rfl (vv_ (G_ (z:=n) (by omega) (by omega) (by omega)) rfl (vv_ (DG_ h h1) (kS_ wt_ _) (vv_ (ld5 h1) rfl (vv_ (BC_ _ (UInt8.toNat_lt _)) rfl (vv_ (z2_ _ _ hm (by omega) ..) rfl (VOK_fin rfl ⟨l[n].toNat%m,n+1,rfl,Nat.mod_lt _ hm,h1⟩))))))
end Go.Proofs.YtjconanknjgpnaaGreat.vars
set_option maxRecDepth 100000
set_option linter.unusedVariables false
set_option linter.unusedSimpArgs false
namespace Go.Proofs.YtjconanknjgpnaaGreat.vars
open Go Go.Sx
def RI (l:List UInt8) (m:Int):Nat->List AV->Prop:=λ_ ws=>∃v n:Nat,ws=[.int .i64 (v:Int),.int .i64 (n:Int)]/\(v:Int)<m/\n<=l.length
theorem zO_ {f:FuncId} {ft:FT} {vs:List AV} {R R':Nat->List AV->Prop} (h:CF Tryz.prog f ft vs R) (hr:∀j ws,R j ws->R' j ws):CF Tryz.prog f ft vs R':=
 ⟨h.1,λY hf B pr E w us h1 h2 h3 h4=>(h.2 Y hf B pr E w us h1 h2 h3 h4).mono λe w' ⟨Y',r,⟨j,ws,b,tp,q1,q2,q3⟩,hp⟩=>⟨Y',r,⟨j,ws,b,tp,q1,hr _ _ q2,q3⟩,hp⟩⟩
theorem hL_ {l:List UInt8} {a:AV} {n:Nat} {m:Int} (h:Pk l a) (hn:n<=l.length) (hm:0<m) (hm2:m<=1000):CF Tryz.prog 39 ft39 [a,.int .i64 (n:Int),.int .i64 m] (RI l m):=by
 have e:m=((m.toNat:Nat):Int):=by omega
 have:=p39 h hn (m:=m.toNat) (by omega) (by omega);rw [←e]at this;exact zO_ this λj ws ⟨v,n,h1,h2,h3⟩=>⟨v,n,h1,by omega,h3⟩
def RX (l:List UInt8) (d:Nat):Nat->List AV->Prop:=λ_ ws=>∃(x:GX) (n:Nat),ws=m_ x++[.int .i64 (n:Int)]/\WX (d+1) x/\n<=l.length
def PX (l:List UInt8) (a:AV) (f:FuncId) (d:Nat):Prop:=∀(n:Nat) (k:Int),n<=l.length->1<=k/\k<=5->CF Tryz.prog f ftX [a,.int .i64 (n:Int),.int .i64 k,.int .i64 (d:Int)] (RX l d)
theorem V_ {d:Nat} {kd ad n vk vi:Int} {nm fd:List UInt8} {vf:Nat} (ho:pW_ vk vi vf) (hf:yV_ vf):WX (d+1) (.mk 1 kd nm fd ad n vk vi vf []):=⟨.inl ⟨.inl rfl,rfl⟩,hf,⟨λ_=>ho,λh=>by omega,λh=>by omega,λh=>by omega⟩,λa ha=>(List.not_mem_nil ha).elim⟩
theorem y_ {d:Nat} {kd ad n vk vi:Int} {nm fd:List UInt8} (ho:(nm,fd)∈wO_):WX (d+1) (.mk 2 kd nm fd ad n vk vi 0 []):=⟨.inl ⟨.inr rfl,rfl⟩,.inl rfl,⟨λh=>by omega,λ_=>ho,λh=>by omega,λh=>by omega⟩,λa ha=>(List.not_mem_nil ha).elim⟩
theorem xl_ {d:Nat} {op kd ad n vk vi:Int} {nm fd:List UInt8} {x:GX} (ho:op=3/\nm=[107]\/op=15\/op=16\/op=17/\2<=kd/\kd<=5) (h:WX d x):WX (d+1) (.mk op kd nm fd ad n vk vi 0 [x]):=by refine ⟨.inr (.inl ⟨by omega,rfl⟩),.inl rfl,⟨λh=>by omega,λh=>by omega,λh=>?_,λh=>by omega⟩,λa ha=>by cases List.mem_singleton.1 ha;exact h⟩;rcases ho with ho|ho|ho|ho;exact ho.2;all_goals omega
theorem xm_ {d:Nat} {op kd ad n vk vi:Int} {nm fd:List UInt8} {x y:GX} (ho:4<=op/\op<=14) (h:WX d x) (h2:WX d y):WX (d+1) (.mk op kd nm fd ad n vk vi 0 [x,y]):=
 ⟨.inr (.inr ⟨ho,rfl⟩),.inl rfl,⟨λh=>by omega,λh=>by omega,λh=>by omega,λh=>by omega⟩,λa ha=>by rcases List.mem_cons.1 ha with rfl|ha;exact h;cases List.mem_singleton.1 ha;exact h2⟩
theorem b_ {P:Program} {Q:AV->Prop} {L:List (Nat->List AV->Prop)} {Y:Sy} {f:FuncId} {ft:FT} {hv vs:List AV} {n:Nat} {bs:VTs} {R:Nat->List AV->Prop} (h1:CF P f ft vs R) (h0:ab_ Y.v hv=vs) (h2:okL vs=true) (h3:si_ P Q R L (Y.puts n vs) (Nat.add n ft.ent.nv) 0 bs):VOK P Q L Y (.callF f ft hv n bs):=by subst h0;exact uv_ h1 h2 h3
theorem okP {a:AV} (h:okC a=true) {n m:Int}:okL [a,.int .i64 n,.int .i64 m]=true:=by simp only [okL,okC,h]
theorem okQ {a:AV} (h:okC a=true) {n m k:Int}:okL [a,.int .i64 n,.int .i64 m,.int .i64 k]=true:=by simp only [okL,okC,h]
theorem vb_ (x:GX) (n:Int):okL (m_ x++[.int .i64 n])=true:=kS_.okL_join (okX x) rfl
theorem H_ {l:List UInt8} {d n j:Nat} {x:GX} {hv:List AV} {Y:Sy} {L:List (Nat->List AV->Prop)} (h:ab_ Y.v hv=m_ x++[.int .i64 (n:Int)]) (hw:WX (d+1) x) (hn:n<=l.length):VOK Tryz.prog (QF (RX l d)) L Y (.done (.tup (.int .i64 (.ofNat j)::hv))):=
 VOK_fin (by rw [h];exact vb_ x n) ⟨x,n,h,hw,hn⟩
section
variable {P:Program} {Q:AV->Prop} {L:List (Nat->List AV->Prop)} {Y:Sy} {t:TypeId} {cx cy:Bool} {args:List AV} {n:Nat} {A B:VT} {k:IntKind} {a b:Int}
def l_:BinOp->Int->Int->Bool
 | .eql,a,b=>decide (a=b)
 | .neq,a,b=> !decide (a=b)
 | .lss,a,b=>decide (a<b)
 | .gtr,a,b=>decide (b<a)
 | .leq,a,b=>decide (a<=b)
 |_,_,_=>false
theorem q_ {op:BinOp} (h0:ab_ Y.v args=[.int k a,.int k b]) (ho:(match op with| .eql=>true| .neq=>true| .lss=>true| .gtr=>true| .leq=>true|_=>false)=true)
  (h1:l_ op a b=true->VOK P Q L (Y.put n (.bool (l_ op a b))) A) (h2:l_ op a b=false->VOK P Q L (Y.put n (.bool (l_ op a b))) B):VOK P Q L Y (.lt (.bin op t cx cy) args n none (.ite n A B)):=by
 have hr:(XOp.bin op t cx cy).run P [.int k a,.int k b]=some (.bool (l_ op a b)):=by
  cases op<;>simp only at ho<;>first|(cases ho;done)|skip
  exact run_eql ..;exact run_neq ..;exact run_lss ..;exact run_leq ..;exact run_gtr ..
 exact vv_ (by rw [h0];exact hr) rfl (ve_ (t:=l_ op a b) (by rw [vQ_,if_pos rfl]) h1 h2)
end
def c48:VC:=⟨⟨[],[]⟩,[],[],1,true,[(39,ft39),(21,p_)]⟩
def t48:VT:=Cf 39 ft39 [64,65,J 4] 68 2<|Iq 66 1 73 (Cf 39 ft39 [64,72,J 2] 74 2<|Li Qa [.vsl 4 10 [J 2,J 0,.str [98],.str [],J 0,J 0,J 0,J 0,.flt .f64 0,.nsl,J 2,J 0,.str [113],.str [],J 0,J 0,J 0,J 0,.flt .f64 0,.nsl,J 2,J 0,.str [116,109],.str [113],J 0,J 0,J 0,J 0,.flt .f64 0,.nsl,J 1,J 0,.str [],.str [],J 0,J 0,J 1,77,.flt .f64 0,.nsl],71] 79<|.lt Qd [79] 80 (some 10)<|Dn [80,81,82,83,84,85,86,87,88,89,78])<|Iq 66 2 74 (Iq 71 0 75 (It Qc [67,J 1] 76 (Li Qh [67,J 1] 77<|Cf 21 p_ [64,72,J 2,77] 78 11<|Dn [J 3,J 0,.str [107],.str [],J 0,J 0,J 0,J 0,.flt .f64 0,.vsl 1 10 [82,83,84,85,86,87,88,89,90,91],92])<|It Z6 [71,J 2] 77 (Cf 39 ft39 [64,72,J 7] 78 2<|Dn [J 17,J 2,.str [],.str [],J 0,J 0,J 0,J 0,.flt .f64 0,.vsl 1 10 [J 1,J 0,.str [],.str [],J 0,J 0,J 3,81,.flt .f64 0,.nsl],82])<|Cf 39 ft39 [64,72,J 4] 78 2<|Li Qa [.vsl 4 10 [J 2,J 0,.str [97],.str [],J 0,J 0,J 0,J 0,.flt .f64 0,.nsl,J 2,J 0,.str [120],.str [],J 0,J 0,J 0,J 0,.flt .f64 0,.nsl,J 2,J 0,.str [111],.str [],J 0,J 0,J 0,J 0,.flt .f64 0,.nsl,J 2,J 0,.str [99],.str [99,118],J 0,J 0,J 0,J 0,.flt .f64 0,.nsl],81] 83<|.lt Qd [83] 84 (some 10)<|Dn [84,85,86,87,88,89,90,91,92,93,82])<|It Z6 [71,J 2] 76 (Cf 39 ft39 [64,72,J 7] 77 2<|Dn [J 17,J 2,.str [],.str [],J 0,J 0,J 0,J 0,.flt .f64 0,.vsl 1 10 [J 1,J 0,.str [],.str [],J 0,J 0,J 3,80,.flt .f64 0,.nsl],81])<|Cf 39 ft39 [64,72,J 4] 77 2<|Li Qa [.vsl 4 10 [J 2,J 0,.str [97],.str [],J 0,J 0,J 0,J 0,.flt .f64 0,.nsl,J 2,J 0,.str [120],.str [],J 0,J 0,J 0,J 0,.flt .f64 0,.nsl,J 2,J 0,.str [111],.str [],J 0,J 0,J 0,J 0,.flt .f64 0,.nsl,J 2,J 0,.str [99],.str [99,118],J 0,J 0,J 0,J 0,.flt .f64 0,.nsl],80] 82<|.lt Qd [82] 83 (some 10)<|Dn [83,84,85,86,87,88,89,90,91,92,81])<|Iq 66 3 75 (It Z6 [71,J 2] 76 (Cf 39 ft39 [64,72,J 9] 77 2<|Dn [J 1,J 0,.str [],.str [],J 0,J 0,J 3,80,.flt .f64 0,.nsl,81])<|Dn [J 2,J 0,.str [121],.str [],J 0,J 0,J 0,J 0,.flt .f64 0,.nsl,72])<|Iq 66 4 76 (Iq 71 0 77 (Dn [J 2,J 0,.str [116,109],.str [101,116],J 0,J 0,J 0,J 0,.flt .f64 0,.nsl,72])<|Iq 71 1 78 (Cf 39 ft39 [64,72,J 50] 79 2<|Dn [J 1,J 0,.str [],.str [],J 0,J 0,J 4,82,.flt .f64 0,.nsl,83])<|Dn [J 2,J 0,.str [119],.str [],J 0,J 0,J 0,J 0,.flt .f64 0,.nsl,72])<|It Z6 [71,J 2] 77 (Cf 39 ft39 [64,72,J 4] 78 2<|Li (.iaddr 143) [.vsl 4 1 [.flt .f64 0,.flt .f64 4609434218613702656,.flt .f64 4611686018427387904,.flt .f64 4598175219545276416],81] 83<|Li (.load 44) [83] 84<|Dn [J 1,J 0,.str [],.str [],J 0,J 0,J 5,J 0,84,.nsl,82])<|Dn [J 2,J 0,.str [122],.str [],J 0,J 0,J 0,J 0,.flt .f64 0,.nsl,72]
def c21:VC:=⟨⟨[],[]⟩,[],[],1,true,[(39,ft39),(21,p_),(48,w0_)]⟩
def t21:VT:=It Qw [67,J 1] 68 (Cf 48 w0_ [64,65,66,67] 69 11<|Dn [73,74,75,76,77,78,79,80,81,82,83])<|Cf 39 ft39 [64,65,J 4] 69 2<|Iq 72 0 74 (Cf 48 w0_ [64,73,66,67] 75 11<|Dn [79,80,81,82,83,84,85,86,87,88,89])<|Iq 66 1 75 (Cf 39 ft39 [64,73,J 5] 76 2<|Iq 79 0 81 (Li Qh [67,J 1] 82<|Cf 21 p_ [64,80,J 1,82] 83 11<|Dn [J 15,J 0,.str [],.str [],J 0,J 0,J 0,J 0,.flt .f64 0,.vsl 1 10 [87,88,89,90,91,92,93,94,95,96],97])<|Iq 79 1 82 (Cf 39 ft39 [64,80,J 2] 83 2<|Li Z9 [J 13,86] 88<|Li Qh [67,J 1] 89<|Cf 21 p_ [64,87,J 1,89] 90 11<|Li Qh [67,J 1] 105<|Cf 21 p_ [64,104,J 1,105] 106 11<|Dn [88,J 0,.str [],.str [],J 0,J 0,J 0,J 0,.flt .f64 0,.vsl 2 10 [94,95,96,97,98,99,100,101,102,103,110,111,112,113,114,115,116,117,118,119],120])<|Cf 39 ft39 [64,80,J 4] 83 2<|Li Z9 [J 2,86] 88<|Cf 39 ft39 [64,87,J 4] 89 2<|Li Z9 [J 9,92] 94<|Li Qh [67,J 1] 95<|Cf 21 p_ [64,93,88,95] 96 11<|Li Qh [67,J 1] 111<|Cf 21 p_ [64,110,88,111] 112 11<|Dn [94,J 0,.str [],.str [],J 0,J 0,J 0,J 0,.flt .f64 0,.vsl 2 10 [100,101,102,103,104,105,106,107,108,109,116,117,118,119,120,121,122,123,124,125],126])<|Cf 39 ft39 [64,73,J 9] 76 2<|Iq 79 0 81 (Li Qh [67,J 1] 82<|Cf 21 p_ [64,80,66,82] 83 11<|Dn [J 16,J 0,.str [],.str [],J 0,J 0,J 0,J 0,.flt .f64 0,.vsl 1 10 [87,88,89,90,91,92,93,94,95,96],97])<|Iq 79 1 82 (Cf 39 ft39 [64,80,J 4] 83 2<|Li Z9 [J 2,86] 88<|Li Qh [67,J 1] 89<|Cf 21 p_ [64,87,88,89] 90 11<|Dn [J 17,66,.str [],.str [],J 0,J 0,J 0,J 0,.flt .f64 0,.vsl 1 10 [94,95,96,97,98,99,100,101,102,103],104])<|Iq 79 2 83 (It Q6 [66,J 5] 84 (Li Qh [67,J 1] 85<|Cf 21 p_ [64,80,66,85] 86 11<|Li Qh [67,J 1] 101<|Cf 21 p_ [64,100,66,101] 102 11<|Dn [J 8,J 0,.str [],.str [],J 0,J 0,J 0,J 0,.flt .f64 0,.vsl 2 10 [90,91,92,93,94,95,96,97,98,99,106,107,108,109,110,111,112,113,114,115],116])<|Cf 39 ft39 [64,80,J 4] 85 2<|Li Z9 [J 4,88] 90<|Li Qh [67,J 1] 91<|Cf 21 p_ [64,89,66,91] 92 11<|Li Qh [67,J 1] 107<|Cf 21 p_ [64,106,66,107] 108 11<|Dn [90,J 0,.str [],.str [],J 0,J 0,J 0,J 0,.flt .f64 0,.vsl 2 10 [96,97,98,99,100,101,102,103,104,105,112,113,114,115,116,117,118,119,120,121],122])<|Cf 39 ft39 [64,80,J 4] 84 2<|Li Z9 [J 4,87] 89<|Li Qh [67,J 1] 90<|Cf 21 p_ [64,88,66,90] 91 11<|Li Qh [67,J 1] 106<|Cf 21 p_ [64,105,66,106] 107 11<|Dn [89,J 0,.str [],.str [],J 0,J 0,J 0,J 0,.flt .f64 0,.vsl 2 10 [95,96,97,98,99,100,101,102,103,104,111,112,113,114,115,116,117,118,119,120],121]
theorem p48 {l:List UInt8} {a:AV} (hp:Pk l a) (d:Nat) (hd2:d<=100) (hX:1<=d->PX l a 21 d):PX l a 48 (d+1):=by
 intro n k hn hk;have hA:=hp.1.ok wt_;refine vh_ (c:=c48) (n:=300) (t:=t48) mo ov rfl (λY _=>vC_ _) (by kernel_rfl) λY hf hg=>?_;unfold t48;have f7:∀v:Nat,(v:Int)<7->WX (d+1+1) (.mk 17 2 [] [] 0 0 0 0 0 [.mk 1 0 [] [] 0 0 3 (v:Int) 0 []]):=λv hv=>xl_ (by decide) (V_ (by unfold pW_;omega) (.inl rfl))
 (refine b_ (hL_ hp hn (by first|decide|omega) (by first|decide|omega)) rfl (okP hA) ⟨?_,trivial⟩;intro ws hw;rcases hw with ⟨v,n,rfl,hv,hn⟩)
 (refine q_ rfl rfl (λh=>?_) (λh=>?_)<;>rw [l_]at h)
 ·((have e4:v=0\/v=1\/v=2\/v=3:=by omega);rcases e4 with rfl|rfl|rfl|rfl)
  all_goals (refine b_ (hL_ hp hn (by first|decide|omega) (by first|decide|omega)) rfl (okP hA) ⟨?_,trivial⟩;intro ws hw;rcases hw with ⟨v,n,rfl,hv,hn⟩);refine vv_ rfl rfl (vf_ rfl rfl rfl ?_);(first
                                                                                                                                                                                                               |exact H_ (x:=.mk 2 _ _ _ _ _ _ _ _ []) rfl (y_ (by decide)) hn
                                                                                                                                                                                                               |exact H_ (x:=.mk 1 _ _ _ _ _ _ _ _ []) rfl (V_ (by unfold pW_;omega) (by first|exact .inl rfl|exact .inr (.inl rfl)|exact .inr (.inr (.inl rfl))|exact .inr (.inr (.inr rfl)))) hn)
 (refine q_ rfl rfl (λh=>?_) (λh=>?_)<;>rw [l_]at h)
 ·(refine q_ rfl rfl (λh=>?_) (λh=>?_)<;>rw [l_]at h)
  ·(refine q_ rfl rfl (λh=>?_) (λh=>?_)<;>rw [l_]at h)
   .have hd1:1<=d:=(by simp at h;omega);refine vv_ (G_ (z:=(d:Int)) (by omega) (by omega) (by omega)) rfl ?_
    (refine b_ ((hX hd1) _ _ hn (by first|decide|(simp only [decide_eq_true_eq,decide_eq_false_iff_not]at *; omega))) rfl (okQ hA) ⟨?_,trivial⟩;intro ws hw;obtain ⟨⟨op,kd,nm,fd,ad,nn,vk,vi,vf,args⟩,n,rfl,hx,hn⟩:=hw)
    (exact H_ (x:=.mk _ _ _ _ _ _ _ _ _ [.mk ..]) rfl (xl_ (by first|decide|(refine .inr (.inr (.inr ⟨rfl,?_,?_⟩))<;>(simp only [decide_eq_true_eq,decide_eq_false_iff_not]at *; omega))) (by assumption)) hn)
   ·(refine q_ rfl rfl (λh=>?_) (λh=>?_)<;>rw [l_]at h)
    ·(refine b_ (hL_ hp hn (by first|decide|omega) (by first|decide|omega)) rfl (okP hA) ⟨?_,trivial⟩;intro ws hw;rcases hw with ⟨v,n,rfl,hv,hn⟩)
     exact H_ (x:=.mk _ _ _ _ _ _ _ _ _ [.mk _ _ _ _ _ _ _ _ _ []]) rfl (f7 _ hv) hn
    ·(refine b_ (hL_ hp hn (by first|decide|omega) (by first|decide|omega)) rfl (okP hA) ⟨?_,trivial⟩;intro ws hw;rcases hw with ⟨v,n,rfl,hv,hn⟩);((have e4:v=0\/v=1\/v=2\/v=3:=by omega);rcases e4 with rfl|rfl|rfl|rfl)
     all_goals refine vv_ rfl rfl (vf_ rfl rfl rfl ?_);(first
                                                                |exact H_ (x:=.mk 2 _ _ _ _ _ _ _ _ []) rfl (y_ (by decide)) hn
                                                                |exact H_ (x:=.mk 1 _ _ _ _ _ _ _ _ []) rfl (V_ (by unfold pW_;omega) (by first|exact .inl rfl|exact .inr (.inl rfl)|exact .inr (.inr (.inl rfl))|exact .inr (.inr (.inr rfl)))) hn)
  ·(refine q_ rfl rfl (λh=>?_) (λh=>?_)<;>rw [l_]at h)
   ·(refine b_ (hL_ hp hn (by first|decide|omega) (by first|decide|omega)) rfl (okP hA) ⟨?_,trivial⟩;intro ws hw;rcases hw with ⟨v,n,rfl,hv,hn⟩)
    exact H_ (x:=.mk _ _ _ _ _ _ _ _ _ [.mk _ _ _ _ _ _ _ _ _ []]) rfl (f7 _ hv) hn
   ·(refine b_ (hL_ hp hn (by first|decide|omega) (by first|decide|omega)) rfl (okP hA) ⟨?_,trivial⟩;intro ws hw;rcases hw with ⟨v,n,rfl,hv,hn⟩);((have e4:v=0\/v=1\/v=2\/v=3:=by omega);rcases e4 with rfl|rfl|rfl|rfl)
    all_goals refine vv_ rfl rfl (vf_ rfl rfl rfl ?_);(first
                                                               |exact H_ (x:=.mk 2 _ _ _ _ _ _ _ _ []) rfl (y_ (by decide)) hn
                                                               |exact H_ (x:=.mk 1 _ _ _ _ _ _ _ _ []) rfl (V_ (by unfold pW_;omega) (by first|exact .inl rfl|exact .inr (.inl rfl)|exact .inr (.inr (.inl rfl))|exact .inr (.inr (.inr rfl)))) hn)
 (refine q_ rfl rfl (λh=>?_) (λh=>?_)<;>rw [l_]at h)
 ·(refine q_ rfl rfl (λh=>?_) (λh=>?_)<;>rw [l_]at h)
  ·(refine b_ (hL_ hp hn (by first|decide|omega) (by first|decide|omega)) rfl (okP hA) ⟨?_,trivial⟩;intro ws hw;rcases hw with ⟨v,n,rfl,hv,hn⟩);(first
                                                                                                                                                       |exact H_ (x:=.mk 2 _ _ _ _ _ _ _ _ []) rfl (y_ (by decide)) hn
                                                                                                                                                       |exact H_ (x:=.mk 1 _ _ _ _ _ _ _ _ []) rfl (V_ (by unfold pW_;omega) (by first|exact .inl rfl|exact .inr (.inl rfl)|exact .inr (.inr (.inl rfl))|exact .inr (.inr (.inr rfl)))) hn)
  ·(first
     |exact H_ (x:=.mk 2 _ _ _ _ _ _ _ _ []) rfl (y_ (by decide)) hn
     |exact H_ (x:=.mk 1 _ _ _ _ _ _ _ _ []) rfl (V_ (by unfold pW_;omega) (by first|exact .inl rfl|exact .inr (.inl rfl)|exact .inr (.inr (.inl rfl))|exact .inr (.inr (.inr rfl)))) hn)
 (refine q_ rfl rfl (λh=>?_) (λh=>?_)<;>rw [l_]at h)
 ·(refine q_ rfl rfl (λh=>?_) (λh=>?_)<;>rw [l_]at h)
  ·(first
     |exact H_ (x:=.mk 2 _ _ _ _ _ _ _ _ []) rfl (y_ (by decide)) hn
     |exact H_ (x:=.mk 1 _ _ _ _ _ _ _ _ []) rfl (V_ (by unfold pW_;omega) (by first|exact .inl rfl|exact .inr (.inl rfl)|exact .inr (.inr (.inl rfl))|exact .inr (.inr (.inr rfl)))) hn)
  ·(refine q_ rfl rfl (λh=>?_) (λh=>?_)<;>rw [l_]at h)
   ·(refine b_ (hL_ hp hn (by first|decide|omega) (by first|decide|omega)) rfl (okP hA) ⟨?_,trivial⟩;intro ws hw;rcases hw with ⟨v,n,rfl,hv,hn⟩);(first
                                                                                                                                                        |exact H_ (x:=.mk 2 _ _ _ _ _ _ _ _ []) rfl (y_ (by decide)) hn
                                                                                                                                                        |exact H_ (x:=.mk 1 _ _ _ _ _ _ _ _ []) rfl (V_ (by unfold pW_;omega) (by first|exact .inl rfl|exact .inr (.inl rfl)|exact .inr (.inr (.inl rfl))|exact .inr (.inr (.inr rfl)))) hn)
   ·(first
      |exact H_ (x:=.mk 2 _ _ _ _ _ _ _ _ []) rfl (y_ (by decide)) hn
      |exact H_ (x:=.mk 1 _ _ _ _ _ _ _ _ []) rfl (V_ (by unfold pW_;omega) (by first|exact .inl rfl|exact .inr (.inl rfl)|exact .inr (.inr (.inl rfl))|exact .inr (.inr (.inr rfl)))) hn)
 (refine q_ rfl rfl (λh=>?_) (λh=>?_)<;>rw [l_]at h)
 ·(refine b_ (hL_ hp hn (by first|decide|omega) (by first|decide|omega)) rfl (okP hA) ⟨?_,trivial⟩;intro ws hw;rcases hw with ⟨v,n,rfl,hv,hn⟩);((have e4:v=0\/v=1\/v=2\/v=3:=by omega);rcases e4 with rfl|rfl|rfl|rfl)
  all_goals refine vv_ rfl rfl (vv_ rfl rfl ?_);(first
                                                        |exact H_ (x:=.mk 2 _ _ _ _ _ _ _ _ []) rfl (y_ (by decide)) hn
                                                        |exact H_ (x:=.mk 1 _ _ _ _ _ _ _ _ []) rfl (V_ (by unfold pW_;omega) (by first|exact .inl rfl|exact .inr (.inl rfl)|exact .inr (.inr (.inl rfl))|exact .inr (.inr (.inr rfl)))) hn)
 ·(first
    |exact H_ (x:=.mk 2 _ _ _ _ _ _ _ _ []) rfl (y_ (by decide)) hn
    |exact H_ (x:=.mk 1 _ _ _ _ _ _ _ _ []) rfl (V_ (by unfold pW_;omega) (by first|exact .inl rfl|exact .inr (.inl rfl)|exact .inr (.inr (.inl rfl))|exact .inr (.inr (.inr rfl)))) hn)
theorem p21 {l:List UInt8} {a:AV} (hp:Pk l a) (d:Nat) (hd2:d<=100) (h83:PX l a 48 (d+1)) (h81:1<=d->PX l a 21 d):PX l a 21 (d+1):=by
 intro n k hn hk;have hA:=hp.1.ok wt_;refine vh_ (c:=c21) (n:=300) (t:=t21) mo ov rfl (λY _=>vC_ _) (by kernel_rfl) λY hf hg=>?_;unfold t21
 (refine q_ rfl rfl (λh=>?_) (λh=>?_)<;>rw [l_]at h)
 ·(refine b_ (h83 _ _ hn (by first|decide|(simp only [decide_eq_true_eq,decide_eq_false_iff_not]at *; omega))) rfl (okQ hA) ⟨?_,trivial⟩;intro ws hw;obtain ⟨⟨op,kd,nm,fd,ad,nn,vk,vi,vf,args⟩,n,rfl,hx,hn⟩:=hw);exact H_ (x:=.mk ..) rfl hx hn
 have hX:=h81 (by simp at h;omega)
 (refine b_ (hL_ hp hn (by first|decide|omega) (by first|decide|omega)) rfl (okP hA) ⟨?_,trivial⟩;intro ws hw;rcases hw with ⟨v,n,rfl,hv,hn⟩);(refine q_ rfl rfl (λh=>?_) (λh=>?_)<;>rw [l_]at h)
 ·(refine b_ (h83 _ _ hn (by first|decide|(simp only [decide_eq_true_eq,decide_eq_false_iff_not]at *; omega))) rfl (okQ hA) ⟨?_,trivial⟩;intro ws hw;obtain ⟨⟨op,kd,nm,fd,ad,nn,vk,vi,vf,args⟩,n,rfl,hx,hn⟩:=hw);exact H_ (x:=.mk ..) rfl hx hn
 (refine q_ rfl rfl (λh=>?_) (λh=>?_)<;>rw [l_]at h)
 ·(refine b_ (hL_ hp hn (by first|decide|omega) (by first|decide|omega)) rfl (okP hA) ⟨?_,trivial⟩;intro ws hw;rcases hw with ⟨v,n,rfl,hv,hn⟩);(refine q_ rfl rfl (λh=>?_) (λh=>?_)<;>rw [l_]at h)
  ·(refine vv_ (G_ (z:=(d:Int)) (by omega) (by omega) (by omega)) rfl ?_);(refine b_ (hX _ _ hn (by first|decide|(simp only [decide_eq_true_eq,decide_eq_false_iff_not]at *; omega))) rfl (okQ hA) ⟨?_,trivial⟩;intro ws hw;obtain ⟨⟨op,kd,nm,fd,ad,nn,vk,vi,vf,args⟩,n,rfl,hx,hn⟩:=hw);(exact H_ (x:=.mk _ _ _ _ _ _ _ _ _ [.mk ..]) rfl (xl_ (by first|decide|(refine .inr (.inr (.inr ⟨rfl,?_,?_⟩))<;>(simp only [decide_eq_true_eq,decide_eq_false_iff_not]at *; omega))) (by assumption)) hn)
  (refine q_ rfl rfl (λh=>?_) (λh=>?_)<;>rw [l_]at h)
  ·(refine b_ (hL_ hp hn (by first|decide|omega) (by first|decide|omega)) rfl (okP hA) ⟨?_,trivial⟩;intro ws hw;rcases hw with ⟨v,n,rfl,hv,hn⟩);(refine vv_ (g_ (by omega) (by omega)) rfl ?_);(refine vv_ (G_ (z:=(d:Int)) (by omega) (by omega) (by omega)) rfl ?_);(refine b_ (hX _ _ hn (by first|decide|(simp only [decide_eq_true_eq,decide_eq_false_iff_not]at *; omega))) rfl (okQ hA) ⟨?_,trivial⟩;intro ws hw;obtain ⟨⟨op,kd,nm,fd,ad,nn,vk,vi,vf,args⟩,n,rfl,hx,hn⟩:=hw);(refine vv_ (G_ (z:=(d:Int)) (by omega) (by omega) (by omega)) rfl ?_);(refine b_ (hX _ _ hn (by first|decide|(simp only [decide_eq_true_eq,decide_eq_false_iff_not]at *; omega))) rfl (okQ hA) ⟨?_,trivial⟩;intro ws hw;obtain ⟨⟨op,kd,nm,fd,ad,nn,vk,vi,vf,args⟩,n,rfl,hx,hn⟩:=hw);(exact H_ (x:=.mk _ _ _ _ _ _ _ _ _ [.mk ..,.mk ..]) rfl (xm_ (by omega) (by assumption) (by assumption)) hn)
  ·(refine b_ (hL_ hp hn (by first|decide|omega) (by first|decide|omega)) rfl (okP hA) ⟨?_,trivial⟩;intro ws hw;rcases hw with ⟨v,n,rfl,hv,hn⟩);(refine vv_ (g_ (by omega) (by omega)) rfl ?_);(refine b_ (hL_ hp hn (by first|decide|omega) (by first|decide|omega)) rfl (okP hA) ⟨?_,trivial⟩;intro ws hw;rcases hw with ⟨v,n,rfl,hv,hn⟩);(refine vv_ (g_ (by omega) (by omega)) rfl ?_);(refine vv_ (G_ (z:=(d:Int)) (by omega) (by omega) (by omega)) rfl ?_);(refine b_ (hX _ _ hn (by first|decide|(simp only [decide_eq_true_eq,decide_eq_false_iff_not]at *; omega))) rfl (okQ hA) ⟨?_,trivial⟩;intro ws hw;obtain ⟨⟨op,kd,nm,fd,ad,nn,vk,vi,vf,args⟩,n,rfl,hx,hn⟩:=hw);(refine vv_ (G_ (z:=(d:Int)) (by omega) (by omega) (by omega)) rfl ?_);(refine b_ (hX _ _ hn (by first|decide|(simp only [decide_eq_true_eq,decide_eq_false_iff_not]at *; omega))) rfl (okQ hA) ⟨?_,trivial⟩;intro ws hw;obtain ⟨⟨op,kd,nm,fd,ad,nn,vk,vi,vf,args⟩,n,rfl,hx,hn⟩:=hw);(exact H_ (x:=.mk _ _ _ _ _ _ _ _ _ [.mk ..,.mk ..]) rfl (xm_ (by omega) (by assumption) (by assumption)) hn)
 ·(refine b_ (hL_ hp hn (by first|decide|omega) (by first|decide|omega)) rfl (okP hA) ⟨?_,trivial⟩;intro ws hw;rcases hw with ⟨v,n,rfl,hv,hn⟩);(refine q_ rfl rfl (λh=>?_) (λh=>?_)<;>rw [l_]at h)
  ·(refine vv_ (G_ (z:=(d:Int)) (by omega) (by omega) (by omega)) rfl ?_);(refine b_ (hX _ _ hn (by first|decide|(simp only [decide_eq_true_eq,decide_eq_false_iff_not]at *; omega))) rfl (okQ hA) ⟨?_,trivial⟩;intro ws hw;obtain ⟨⟨op,kd,nm,fd,ad,nn,vk,vi,vf,args⟩,n,rfl,hx,hn⟩:=hw);(exact H_ (x:=.mk _ _ _ _ _ _ _ _ _ [.mk ..]) rfl (xl_ (by first|decide|(refine .inr (.inr (.inr ⟨rfl,?_,?_⟩))<;>(simp only [decide_eq_true_eq,decide_eq_false_iff_not]at *; omega))) (by assumption)) hn)
  (refine q_ rfl rfl (λh=>?_) (λh=>?_)<;>rw [l_]at h)
  ·(refine b_ (hL_ hp hn (by first|decide|omega) (by first|decide|omega)) rfl (okP hA) ⟨?_,trivial⟩;intro ws hw;rcases hw with ⟨v,n,rfl,hv,hn⟩);(refine vv_ (g_ (by omega) (by omega)) rfl ?_);(refine vv_ (G_ (z:=(d:Int)) (by omega) (by omega) (by omega)) rfl ?_);(refine b_ (hX _ _ hn (by first|decide|(simp only [decide_eq_true_eq,decide_eq_false_iff_not]at *; omega))) rfl (okQ hA) ⟨?_,trivial⟩;intro ws hw;obtain ⟨⟨op,kd,nm,fd,ad,nn,vk,vi,vf,args⟩,n,rfl,hx,hn⟩:=hw);(exact H_ (x:=.mk _ _ _ _ _ _ _ _ _ [.mk ..]) rfl (xl_ (by first|decide|(refine .inr (.inr (.inr ⟨rfl,?_,?_⟩))<;>(simp only [decide_eq_true_eq,decide_eq_false_iff_not]at *; omega))) (by assumption)) hn)
  (refine q_ rfl rfl (λh=>?_) (λh=>?_)<;>rw [l_]at h)
  ·(refine q_ rfl rfl (λh=>?_) (λh=>?_)<;>rw [l_]at h)
   ·(refine vv_ (G_ (z:=(d:Int)) (by omega) (by omega) (by omega)) rfl ?_);(refine b_ (hX _ _ hn (by first|decide|(simp only [decide_eq_true_eq,decide_eq_false_iff_not]at *; omega))) rfl (okQ hA) ⟨?_,trivial⟩;intro ws hw;obtain ⟨⟨op,kd,nm,fd,ad,nn,vk,vi,vf,args⟩,n,rfl,hx,hn⟩:=hw);(refine vv_ (G_ (z:=(d:Int)) (by omega) (by omega) (by omega)) rfl ?_);(refine b_ (hX _ _ hn (by first|decide|(simp only [decide_eq_true_eq,decide_eq_false_iff_not]at *; omega))) rfl (okQ hA) ⟨?_,trivial⟩;intro ws hw;obtain ⟨⟨op,kd,nm,fd,ad,nn,vk,vi,vf,args⟩,n,rfl,hx,hn⟩:=hw);(exact H_ (x:=.mk _ _ _ _ _ _ _ _ _ [.mk ..,.mk ..]) rfl (xm_ (by omega) (by assumption) (by assumption)) hn)
   ·(refine b_ (hL_ hp hn (by first|decide|omega) (by first|decide|omega)) rfl (okP hA) ⟨?_,trivial⟩;intro ws hw;rcases hw with ⟨v,n,rfl,hv,hn⟩);(refine vv_ (g_ (by omega) (by omega)) rfl ?_);(refine vv_ (G_ (z:=(d:Int)) (by omega) (by omega) (by omega)) rfl ?_);(refine b_ (hX _ _ hn (by first|decide|(simp only [decide_eq_true_eq,decide_eq_false_iff_not]at *; omega))) rfl (okQ hA) ⟨?_,trivial⟩;intro ws hw;obtain ⟨⟨op,kd,nm,fd,ad,nn,vk,vi,vf,args⟩,n,rfl,hx,hn⟩:=hw);(refine vv_ (G_ (z:=(d:Int)) (by omega) (by omega) (by omega)) rfl ?_);(refine b_ (hX _ _ hn (by first|decide|(simp only [decide_eq_true_eq,decide_eq_false_iff_not]at *; omega))) rfl (okQ hA) ⟨?_,trivial⟩;intro ws hw;obtain ⟨⟨op,kd,nm,fd,ad,nn,vk,vi,vf,args⟩,n,rfl,hx,hn⟩:=hw);(exact H_ (x:=.mk _ _ _ _ _ _ _ _ _ [.mk ..,.mk ..]) rfl (xm_ (by omega) (by assumption) (by assumption)) hn)
  ·(refine b_ (hL_ hp hn (by first|decide|omega) (by first|decide|omega)) rfl (okP hA) ⟨?_,trivial⟩;intro ws hw;rcases hw with ⟨v,n,rfl,hv,hn⟩);(refine vv_ (g_ (by omega) (by omega)) rfl ?_);(refine vv_ (G_ (z:=(d:Int)) (by omega) (by omega) (by omega)) rfl ?_);(refine b_ (hX _ _ hn (by first|decide|(simp only [decide_eq_true_eq,decide_eq_false_iff_not]at *; omega))) rfl (okQ hA) ⟨?_,trivial⟩;intro ws hw;obtain ⟨⟨op,kd,nm,fd,ad,nn,vk,vi,vf,args⟩,n,rfl,hx,hn⟩:=hw);(refine vv_ (G_ (z:=(d:Int)) (by omega) (by omega) (by omega)) rfl ?_);(refine b_ (hX _ _ hn (by first|decide|(simp only [decide_eq_true_eq,decide_eq_false_iff_not]at *; omega))) rfl (okQ hA) ⟨?_,trivial⟩;intro ws hw;obtain ⟨⟨op,kd,nm,fd,ad,nn,vk,vi,vf,args⟩,n,rfl,hx,hn⟩:=hw);(exact H_ (x:=.mk _ _ _ _ _ _ _ _ _ [.mk ..,.mk ..]) rfl (xm_ (by omega) (by assumption) (by assumption)) hn)
theorem pX {l:List UInt8} {a:AV} (hp:Pk l a):∀d:Nat,d<=100->PX l a 48 (d+1)/\PX l a 21 (d+1)
 |0,h=>by have h1:=p48 hp 0 h (λh=>by omega);exact ⟨h1,p21 hp 0 h h1 (λh=>by omega)⟩
 |d+1,h=>by have ih:=pX hp d (by omega);have h1:=p48 hp (d+1) h (λ_=>ih.2);exact ⟨h1,p21 hp (d+1) h h1 (λ_=>ih.2)⟩
end Go.Proofs.YtjconanknjgpnaaGreat.vars
set_option maxRecDepth 100000
set_option linter.unusedVariables false
set_option linter.unusedSimpArgs false
namespace Go.Proofs.YtjconanknjgpnaaGreat.vars
open Go Go.Sx
def RS (l:List UInt8) (d:Nat):Nat->List AV->Prop:=λ_ ws=>∃(x:GS) (n:Nat),ws=pY_ x++[.int .i64 (n:Int)]/\WS d x/\n<=l.length
def RB (l:List UInt8) (d m:Nat):Nat->List AV->Prop:=λ_ ws=>∃(x:List GS) (n:Nat),ws=[P_ x,.int .i64 (n:Int)]/\(x.length<=m/\∀s∈x,WS d s)/\n<=l.length
def PS (l:List UInt8) (a:AV) (d:Nat):Prop:=∀n:Nat,n<=l.length->CF Tryz.prog 112 ft112 [a,.int .i64 (n:Int),.int .i64 (d:Int)] (RS l (d+1))
def PB (l:List UInt8) (a:AV) (d:Nat):Prop:=∀(n m:Nat),n<=l.length->1<=m->m<=10->CF Tryz.prog 70 ft70 [a,.int .i64 (n:Int),.int .i64 (m:Int),.int .i64 (d:Int)] (RB l (d+1) m)
theorem BZ_ (x:GS) (n:Int):okL (pY_ x++[.int .i64 n])=true:=kS_.okL_join (okS x) rfl
theorem nl_ {l:List UInt8} {d n j:Nat} {x:GS} {hv:List AV} {Y:Sy} {L:List (Nat->List AV->Prop)} (h:ab_ Y.v hv=pY_ x++[.int .i64 (n:Int)]) (hw:WS d x) (hn:n<=l.length):VOK Tryz.prog (QF (RS l d)) L Y (.done (.tup (.int .i64 (.ofNat j)::hv))):=
 VOK_fin (by rw [h];exact BZ_ x n) ⟨x,n,h,hw,hn⟩
theorem s1_ {d:Nat} {to e:GX} (h1:WX 5 to) (h2:to.op=2\/to.op=3) (h3:WX 5 e):WS (d+1) (.mk 1 to e [] [] [] 0 0 []):=.inl ⟨rfl,h1,h2,e_ (by omega) h3,rfl,rfl⟩
theorem L_ {d:Nat} {to e:GX} {nm:List UInt8} {kd ad:Int} {args:List GX} (h0:nm=[116,109]\/nm=[99]\/nm=[101]) (h1:args.length<=2) (h2:∀a∈args,WX 5 a):WS (d+1) (.mk 4 to e [] [] nm kd ad args):=.inr (.inr ⟨rfl,h0,h1,h2,rfl,rfl⟩)
theorem yb_ {d:Nat} {op:Int} {to e:GX} {thn els:List GS} {nm:List UInt8} {kd ad:Int} {args:List GX} (h1:op=2\/op=3) (h:WX 5 e) (h2:thn.length<=5) (h3:els.length<=5) (h4:∀s∈thn,WS d s) (h5:∀s∈els,WS d s):WS (d+1) (.mk op to e thn els nm kd ad args):=.inr (.inl ⟨h1,h,h2,h3,h4,h5⟩)
theorem yW_ {x:GX} (h:WX 5 x):∀a∈[x],WX 5 a:=λa ha=>by cases List.mem_singleton.1 ha;exact h
theorem xv_ {x y:GX} (h:WX 5 x) (h2:WX 5 y):∀a∈[x,y],WX 5 a:=λa ha=>by rcases List.mem_cons.1 ha with rfl|ha;exact h;exact yW_ h2 a ha
theorem vF_ {s:List UInt8} (h:(s,[])∈wO_):WX 5 (.mk 2 0 s [] 0 0 0 0 0 []):=y_ h
def c79:VC:=⟨⟨[],[]⟩,[],[],0,true,[]⟩
def t79:VT:=.done (.agg [J 2,J 0,64,.str [],J 0,J 0,J 0,J 0,.flt .f64 0,.nsl])
def c80:VC:=⟨⟨[],[]⟩,[],[],0,true,[]⟩
def t80:VT:=.done (.agg [J 1,J 0,.str [],.str [],J 0,J 0,64,65,66,.nsl])
theorem p79 (s:List UInt8):kH_ Tryz.prog 79 [.str s] (.agg (m_ (.mk 2 0 s [] 0 0 0 0 0 []))):=by refine t6_ (sh:=[none]) (ls:=[.str s]) (c:=c79) (n:=300) (t:=t79) mo ov rfl rfl rfl (λY _=>vC_ _) rfl (by kernel_rfl) λY hf hg=>?_;unfold t79;exact uH_ rfl
theorem p80:kH_ Tryz.prog 80 [.agg [.int .i64 3,.int .i64 1,.flt .f64 0]] (.agg (m_ (.mk 1 0 [] [] 0 0 3 1 0 []))):=by refine t6_ (sh:=[some 3]) (ls:=[.int .i64 3,.int .i64 1,.flt .f64 0]) (c:=c80) (n:=300) (t:=t80) mo ov rfl rfl rfl (λY _=>vC_ _) rfl (by kernel_rfl) λY hf hg=>?_;unfold t80;exact uH_ rfl
def C4_:VC:=⟨⟨[],[]⟩,[(79,[(some 10)]),(80,[(some 10)])],[],1,true,[(39,ft39),(21,p_),(48,w0_),(70,ft70)]⟩
def Cj_:VT:=Cf 39 ft39 [64,65,J 12] 67 2<|Iq 70 0 72 (It Qc [66,J 0] 73 (Cf 21 p_ [64,71,J 1,J 3] 74 11<|Li Qh [66,J 1] 89<|Cf 70 ft70 [64,88,J 2,89] 90 2<|Cf 39 ft39 [64,95,J 2] 96 2<|Iq 99 0 101 (Li Qh [66,J 1] 102<|Cf 70 ft70 [64,100,J 2,102] 103 2<|Dn [J 2,J 0,J 0,.str [],.str [],J 0,J 0,J 0,J 0,.flt .f64 0,.nsl,78,79,80,81,82,83,84,85,86,87,94,107,.str [],J 0,J 0,.nsl,108])<|Dn [J 2,J 0,J 0,.str [],.str [],J 0,J 0,J 0,J 0,.flt .f64 0,.nsl,78,79,80,81,82,83,84,85,86,87,94,.nsl,.str [],J 0,J 0,.nsl,100])<|Iq 70 1 74 (It Qc [66,J 0] 75 (.call 79 [.str [120]] 76 [(some 10)]<|Cf 48 w0_ [64,71,J 2,J 1] 86 11<|Li Qh [66,J 1] 101<|Cf 70 ft70 [64,100,J 1,101] 102 2<|.call 79 [.str [120]] 108 [(some 10)]<|.call 79 [.str [120]] 118 [(some 10)]<|.call 80 [.agg [J 3,J 1,.flt .f64 0]] 128 [(some 10)]<|Li Zm [106,.agg [J 1,108,109,110,111,112,113,114,115,116,117,J 4,J 0,.str [],.str [],J 0,J 0,J 0,J 0,.flt .f64 0,.vsl 2 10 [118,119,120,121,122,123,124,125,126,127,128,129,130,131,132,133,134,135,136,137],.nsl,.nsl,.str [],J 0,J 0,.nsl]] 138<|Dn [J 3,J 0,J 0,.str [],.str [],J 0,J 0,J 0,J 0,.flt .f64 0,.nsl,J 11,J 0,.str [],.str [],J 0,J 0,J 0,J 0,.flt .f64 0,.vsl 2 10 [76,77,78,79,80,81,82,83,84,85,90,91,92,93,94,95,96,97,98,99],138,.nsl,.str [],J 0,J 0,.nsl,107])<|Iq 70 2 76 (Cf 21 p_ [64,71,J 1,J 2] 77 11<|Cf 21 p_ [64,91,J 4,J 2] 92 11<|Dn [J 4,J 0,J 0,.str [],.str [],J 0,J 0,J 0,J 0,.flt .f64 0,.nsl,J 0,J 0,.str [],.str [],J 0,J 0,J 0,J 0,.flt .f64 0,.nsl,.nsl,.nsl,.str [116,109],J 0,J 0,.vsl 2 10 [81,82,83,84,85,86,87,88,89,90,96,97,98,99,100,101,102,103,104,105],106])<|Iq 70 3 77 (Cf 21 p_ [64,71,J 1,J 2] 78 11<|Cf 48 w0_ [64,92,J 2,J 1] 93 11<|Dn [J 4,J 0,J 0,.str [],.str [],J 0,J 0,J 0,J 0,.flt .f64 0,.nsl,J 0,J 0,.str [],.str [],J 0,J 0,J 0,J 0,.flt .f64 0,.nsl,.nsl,.nsl,.str [99],J 0,J 0,.vsl 2 10 [82,83,84,85,86,87,88,89,90,91,97,98,99,100,101,102,103,104,105,106],107])<|Iq 70 4 78 (Cf 21 p_ [64,71,J 1,J 2] 79 11<|Dn [J 4,J 0,J 0,.str [],.str [],J 0,J 0,J 0,J 0,.flt .f64 0,.nsl,J 0,J 0,.str [],.str [],J 0,J 0,J 0,J 0,.flt .f64 0,.nsl,.nsl,.nsl,.str [101],J 0,J 0,.vsl 1 10 [83,84,85,86,87,88,89,90,91,92],93])<|Iq 70 5 79 (Cf 21 p_ [64,71,J 2,J 2] 80 11<|Cf 21 p_ [64,94,J 2,J 3] 95 11<|Dn [J 1,J 3,J 0,.str [107],.str [],J 0,J 0,J 0,J 0,.flt .f64 0,.vsl 1 10 [84,85,86,87,88,89,90,91,92,93],99,100,101,102,103,104,105,106,107,108,.nsl,.nsl,.str [],J 0,J 0,.nsl,109])<|Cf 39 ft39 [64,71,J 6] 80 2<|Li Zi [.vsl 6 1 [.str [111],.str [120],.str [113],.str [121],.str [122],.str [119]],83] 85<|Li Zj [85] 86<|Li Zn [86] 87<|.call 79 [86] 88 [(some 10)]<|Cf 21 p_ [64,84,87,J 4] 98 11<|Dn [J 1,88,89,90,91,92,93,94,95,96,97,102,103,104,105,106,107,108,109,110,111,.nsl,.nsl,.str [],J 0,J 0,.nsl,112])<|Iq 70 2 75 (Cf 21 p_ [64,71,J 1,J 2] 76 11<|Cf 21 p_ [64,90,J 4,J 2] 91 11<|Dn [J 4,J 0,J 0,.str [],.str [],J 0,J 0,J 0,J 0,.flt .f64 0,.nsl,J 0,J 0,.str [],.str [],J 0,J 0,J 0,J 0,.flt .f64 0,.nsl,.nsl,.nsl,.str [116,109],J 0,J 0,.vsl 2 10 [80,81,82,83,84,85,86,87,88,89,95,96,97,98,99,100,101,102,103,104],105])<|Iq 70 3 76 (Cf 21 p_ [64,71,J 1,J 2] 77 11<|Cf 48 w0_ [64,91,J 2,J 1] 92 11<|Dn [J 4,J 0,J 0,.str [],.str [],J 0,J 0,J 0,J 0,.flt .f64 0,.nsl,J 0,J 0,.str [],.str [],J 0,J 0,J 0,J 0,.flt .f64 0,.nsl,.nsl,.nsl,.str [99],J 0,J 0,.vsl 2 10 [81,82,83,84,85,86,87,88,89,90,96,97,98,99,100,101,102,103,104,105],106])<|Iq 70 4 77 (Cf 21 p_ [64,71,J 1,J 2] 78 11<|Dn [J 4,J 0,J 0,.str [],.str [],J 0,J 0,J 0,J 0,.flt .f64 0,.nsl,J 0,J 0,.str [],.str [],J 0,J 0,J 0,J 0,.flt .f64 0,.nsl,.nsl,.nsl,.str [101],J 0,J 0,.vsl 1 10 [82,83,84,85,86,87,88,89,90,91],92])<|Iq 70 5 78 (Cf 21 p_ [64,71,J 2,J 2] 79 11<|Cf 21 p_ [64,93,J 2,J 3] 94 11<|Dn [J 1,J 3,J 0,.str [107],.str [],J 0,J 0,J 0,J 0,.flt .f64 0,.vsl 1 10 [83,84,85,86,87,88,89,90,91,92],98,99,100,101,102,103,104,105,106,107,.nsl,.nsl,.str [],J 0,J 0,.nsl,108])<|Cf 39 ft39 [64,71,J 6] 79 2<|Li Zi [.vsl 6 1 [.str [111],.str [120],.str [113],.str [121],.str [122],.str [119]],82] 84<|Li Zj [84] 85<|Li Zn [85] 86<|.call 79 [85] 87 [(some 10)]<|Cf 21 p_ [64,83,86,J 4] 97 11<|Dn [J 1,87,88,89,90,91,92,93,94,95,96,101,102,103,104,105,106,107,108,109,110,.nsl,.nsl,.str [],J 0,J 0,.nsl,111])<|Iq 70 1 73 (It Qc [66,J 0] 74 (.call 79 [.str [120]] 75 [(some 10)]<|Cf 48 w0_ [64,71,J 2,J 1] 85 11<|Li Qh [66,J 1] 100<|Cf 70 ft70 [64,99,J 1,100] 101 2<|.call 79 [.str [120]] 107 [(some 10)]<|.call 79 [.str [120]] 117 [(some 10)]<|.call 80 [.agg [J 3,J 1,.flt .f64 0]] 127 [(some 10)]<|Li Zm [105,.agg [J 1,107,108,109,110,111,112,113,114,115,116,J 4,J 0,.str [],.str [],J 0,J 0,J 0,J 0,.flt .f64 0,.vsl 2 10 [117,118,119,120,121,122,123,124,125,126,127,128,129,130,131,132,133,134,135,136],.nsl,.nsl,.str [],J 0,J 0,.nsl]] 137<|Dn [J 3,J 0,J 0,.str [],.str [],J 0,J 0,J 0,J 0,.flt .f64 0,.nsl,J 11,J 0,.str [],.str [],J 0,J 0,J 0,J 0,.flt .f64 0,.vsl 2 10 [75,76,77,78,79,80,81,82,83,84,89,90,91,92,93,94,95,96,97,98],137,.nsl,.str [],J 0,J 0,.nsl,106])<|Iq 70 2 75 (Cf 21 p_ [64,71,J 1,J 2] 76 11<|Cf 21 p_ [64,90,J 4,J 2] 91 11<|Dn [J 4,J 0,J 0,.str [],.str [],J 0,J 0,J 0,J 0,.flt .f64 0,.nsl,J 0,J 0,.str [],.str [],J 0,J 0,J 0,J 0,.flt .f64 0,.nsl,.nsl,.nsl,.str [116,109],J 0,J 0,.vsl 2 10 [80,81,82,83,84,85,86,87,88,89,95,96,97,98,99,100,101,102,103,104],105])<|Iq 70 3 76 (Cf 21 p_ [64,71,J 1,J 2] 77 11<|Cf 48 w0_ [64,91,J 2,J 1] 92 11<|Dn [J 4,J 0,J 0,.str [],.str [],J 0,J 0,J 0,J 0,.flt .f64 0,.nsl,J 0,J 0,.str [],.str [],J 0,J 0,J 0,J 0,.flt .f64 0,.nsl,.nsl,.nsl,.str [99],J 0,J 0,.vsl 2 10 [81,82,83,84,85,86,87,88,89,90,96,97,98,99,100,101,102,103,104,105],106])<|Iq 70 4 77 (Cf 21 p_ [64,71,J 1,J 2] 78 11<|Dn [J 4,J 0,J 0,.str [],.str [],J 0,J 0,J 0,J 0,.flt .f64 0,.nsl,J 0,J 0,.str [],.str [],J 0,J 0,J 0,J 0,.flt .f64 0,.nsl,.nsl,.nsl,.str [101],J 0,J 0,.vsl 1 10 [82,83,84,85,86,87,88,89,90,91],92])<|Iq 70 5 78 (Cf 21 p_ [64,71,J 2,J 2] 79 11<|Cf 21 p_ [64,93,J 2,J 3] 94 11<|Dn [J 1,J 3,J 0,.str [107],.str [],J 0,J 0,J 0,J 0,.flt .f64 0,.vsl 1 10 [83,84,85,86,87,88,89,90,91,92],98,99,100,101,102,103,104,105,106,107,.nsl,.nsl,.str [],J 0,J 0,.nsl,108])<|Cf 39 ft39 [64,71,J 6] 79 2<|Li Zi [.vsl 6 1 [.str [111],.str [120],.str [113],.str [121],.str [122],.str [119]],82] 84<|Li Zj [84] 85<|Li Zn [85] 86<|.call 79 [85] 87 [(some 10)]<|Cf 21 p_ [64,83,86,J 4] 97 11<|Dn [J 1,87,88,89,90,91,92,93,94,95,96,101,102,103,104,105,106,107,108,109,110,.nsl,.nsl,.str [],J 0,J 0,.nsl,111])<|Iq 70 2 74 (Cf 21 p_ [64,71,J 1,J 2] 75 11<|Cf 21 p_ [64,89,J 4,J 2] 90 11<|Dn [J 4,J 0,J 0,.str [],.str [],J 0,J 0,J 0,J 0,.flt .f64 0,.nsl,J 0,J 0,.str [],.str [],J 0,J 0,J 0,J 0,.flt .f64 0,.nsl,.nsl,.nsl,.str [116,109],J 0,J 0,.vsl 2 10 [79,80,81,82,83,84,85,86,87,88,94,95,96,97,98,99,100,101,102,103],104])<|Iq 70 3 75 (Cf 21 p_ [64,71,J 1,J 2] 76 11<|Cf 48 w0_ [64,90,J 2,J 1] 91 11<|Dn [J 4,J 0,J 0,.str [],.str [],J 0,J 0,J 0,J 0,.flt .f64 0,.nsl,J 0,J 0,.str [],.str [],J 0,J 0,J 0,J 0,.flt .f64 0,.nsl,.nsl,.nsl,.str [99],J 0,J 0,.vsl 2 10 [80,81,82,83,84,85,86,87,88,89,95,96,97,98,99,100,101,102,103,104],105])<|Iq 70 4 76 (Cf 21 p_ [64,71,J 1,J 2] 77 11<|Dn [J 4,J 0,J 0,.str [],.str [],J 0,J 0,J 0,J 0,.flt .f64 0,.nsl,J 0,J 0,.str [],.str [],J 0,J 0,J 0,J 0,.flt .f64 0,.nsl,.nsl,.nsl,.str [101],J 0,J 0,.vsl 1 10 [81,82,83,84,85,86,87,88,89,90],91])<|Iq 70 5 77 (Cf 21 p_ [64,71,J 2,J 2] 78 11<|Cf 21 p_ [64,92,J 2,J 3] 93 11<|Dn [J 1,J 3,J 0,.str [107],.str [],J 0,J 0,J 0,J 0,.flt .f64 0,.vsl 1 10 [82,83,84,85,86,87,88,89,90,91],97,98,99,100,101,102,103,104,105,106,.nsl,.nsl,.str [],J 0,J 0,.nsl,107])<|Cf 39 ft39 [64,71,J 6] 78 2<|Li Zi [.vsl 6 1 [.str [111],.str [120],.str [113],.str [121],.str [122],.str [119]],81] 83<|Li Zj [83] 84<|Li Zn [84] 85<|.call 79 [84] 86 [(some 10)]<|Cf 21 p_ [64,82,85,J 4] 96 11<|Dn [J 1,86,87,88,89,90,91,92,93,94,95,100,101,102,103,104,105,106,107,108,109,.nsl,.nsl,.str [],J 0,J 0,.nsl,110]
def c70:VC:=⟨⟨[],[]⟩,[],[(0,[⟨[(8,.slx 0 0 0),(2,67),(0,.ptr 0 0),(7,.slx 1 27 1)],[(0,[64,.slx 2 0 0])],2,3,[⟨1,27,1,7,none⟩],[],[]⟩])],1,true,[(39,ft39),(112,ft112)]⟩
def t70:VT:=Cf 39 ft39 [64,65,66] 68 2<|Li Q2 [71,J 1] 73<|.loop 74 0 [73,.nsl,72] (.cons 3 (It Qc [74,J 0] 77 (Cf 112 ft112 [64,76,67] 78 28<|Li Zm [75,.agg [81,82,83,84,85,86,87,88,89,90,91,92,93,94,95,96,97,98,99,100,101,102,103,104,105,106,107]] 109<|Li Qh [74,J 1] 110<|.again 0 0 [110,109,108])<|Dn [75,76]) .nil)
theorem vI_ (l:List GS) (s:GS) (hl:l.length<=1000):(XOp.app 27 336).run Tryz.prog [P_ l,.agg (pY_ s)]=some (P_ (l++[s])):=by rw [wG_,wG_];exact t9_ AV_ (by decide) (by decide) l s (by omega)
theorem okR {a:AV} (h:okC a=true) {n m k:Int}:okL [a,.int .i64 n,.int .i64 m,.int .i64 k]=true:=by simp only [okL,okC,h]
theorem B3_ {l:List UInt8} {a:AV} (hp:Pk l a) (d:Nat) (hd2:d<=100) (hB:∀e,d=e+1->PB l a e):PS l a d:=by
 intro n hn;have hA:=hp.1.ok wt_;have h2:∀(n:Nat) (k:Int),n<=l.length->1<=k/\k<=5->CF Tryz.prog 21 ftX [a,.int .i64 (n:Int),.int .i64 k,.int .i64 2] (RX l 2):=(pX hp 1 (by decide)).2;have h3:∀(n:Nat) (k:Int),n<=l.length->1<=k/\k<=5->CF Tryz.prog 21 ftX [a,.int .i64 (n:Int),.int .i64 k,.int .i64 3] (RX l 3):=(pX hp 2 (by decide)).2;have h4:∀(n:Nat) (k:Int),n<=l.length->1<=k/\k<=5->CF Tryz.prog 21 ftX [a,.int .i64 (n:Int),.int .i64 k,.int .i64 4] (RX l 4):=(pX hp 3 (by decide)).2;have h31:∀(n:Nat) (k:Int),n<=l.length->1<=k/\k<=5->CF Tryz.prog 48 ftX [a,.int .i64 (n:Int),.int .i64 k,.int .i64 1] (RX l 1):=(pX hp 0 (by decide)).1;refine vh_ (c:=C4_) (n:=300) (t:=Cj_) mo ov rfl (λY _=>vC_ _) (by kernel_rfl) λY hf hg=>?_;unfold Cj_
 (refine b_ (hL_ hp hn (by first|decide|omega) (by first|decide|omega)) rfl (okP hA) ⟨?_,trivial⟩;intro ws hw;rcases hw with ⟨v,n,rfl,hv,hn⟩)
 (refine q_ rfl rfl (λh=>?_) (λh=>?_)<;>rw [l_]at h)
 ·(refine q_ rfl rfl (λh=>?_) (λh=>?_)<;>rw [l_]at h)
  .obtain ⟨e,rfl⟩:∃e,d=e+1:=⟨d-1,by simp at h;omega⟩;have hB:=hB e rfl
   (refine b_ (h3 _ _ hn (by decide)) rfl (okQ hA) ⟨?_,trivial⟩;intro ws hw;obtain ⟨⟨op,kd,nm,fd,ad,nn,vk,vi,vf,args⟩,n,rfl,hx,hn⟩:=hw;replace hx:=e_ (e:=5) (by decide) hx)
   refine vv_ (G_ (z:=(e:Int)) (by omega) (by omega) (by omega)) rfl ?_;refine b_ (hB _ 2 hn (by decide) (by decide)) rfl (okR hA) ⟨?_,trivial⟩;rintro ws ⟨thn,n,rfl,⟨ht,hts⟩,hn⟩
   (refine b_ (hL_ hp hn (by first|decide|omega) (by first|decide|omega)) rfl (okP hA) ⟨?_,trivial⟩;intro ws hw;rcases hw with ⟨v,n,rfl,hv,hn⟩)
   (refine q_ rfl rfl (λh=>?_) (λh=>?_)<;>rw [l_]at h)
   refine vv_ (G_ (z:=(e:Int)) (by omega) (by omega) (by omega)) rfl ?_;refine b_ (hB _ 2 hn (by decide) (by decide)) rfl (okR hA) ⟨?_,trivial⟩;rintro ws ⟨els,n,rfl,⟨he,hes⟩,hn⟩;exact nl_ (x:=.mk _ (.mk _ _ _ _ _ _ _ _ _ []) (.mk ..) thn els _ _ _ []) rfl (yb_ (.inl rfl) (by assumption) (by omega) (by omega) hts hes) hn;exact nl_ (x:=.mk _ (.mk _ _ _ _ _ _ _ _ _ []) (.mk ..) thn [] _ _ _ []) rfl (yb_ (.inl rfl) (by assumption) (by omega) (by decide) hts (λs hs=>(List.not_mem_nil hs).elim)) hn
  ·(
    (refine q_ rfl rfl (λh=>?_) (λh=>?_)<;>rw [l_]at h)
    ·(refine q_ rfl rfl (λh=>?_) (λh=>?_)<;>rw [l_]at h)
     .obtain ⟨e,rfl⟩:∃e,d=e+1:=⟨d-1,by simp at h;omega⟩;have hB:=hB e rfl;refine uG_ (p79 _) rfl rfl ?_
      (refine b_ (h31 _ _ hn (by first|decide|(simp only [decide_eq_true_eq,decide_eq_false_iff_not]at *; omega))) rfl (okQ hA) ⟨?_,trivial⟩;intro ws hw;obtain ⟨⟨op,kd,nm,fd,ad,nn,vk,vi,vf,args⟩,n,rfl,hx,hn⟩:=hw)
      refine vv_ (G_ (z:=(e:Int)) (by omega) (by omega) (by omega)) rfl ?_;refine b_ (hB _ 1 hn (by decide) (by decide)) rfl (okR hA) ⟨?_,trivial⟩;rintro ws ⟨thn,n,rfl,⟨ht,hts⟩,hn⟩;refine uG_ (p79 _) rfl rfl (uG_ (p79 _) rfl rfl (uG_ p80 rfl rfl ?_));refine vv_ (vI_ thn (.mk 1 (.mk _ _ _ _ _ _ _ _ _ []) (.mk _ _ _ _ _ _ _ _ _ [.mk _ _ _ _ _ _ _ _ _ [],.mk _ _ _ _ _ _ _ _ _ []]) [] [] _ _ _ []) (by omega)) (okB _) ?_;refine nl_ (x:=.mk _ (.mk _ _ _ _ _ _ _ _ _ []) (.mk _ _ _ _ _ _ _ _ _ [.mk _ _ _ _ _ _ _ _ _ [],.mk ..]) (thn++[_]) [] _ _ _ []) rfl (yb_ (.inr rfl) ?_ ?_ (by decide) ?_ (λs hs=>(List.not_mem_nil hs).elim)) hn;exact xm_ (by decide) (y_ (by decide)) (e_ (e:=4) (by decide) hx);rw [List.length_append];simp;omega;intro s hs;rcases List.mem_append.1 hs with hs|hs;exact hts s hs;cases List.mem_singleton.1 hs;exact s1_ (vF_ (by decide)) (.inl rfl) (xm_ (by decide) (y_ (by decide)) (V_ (by unfold pW_;omega) (.inl rfl)))
     ·(
       (refine q_ rfl rfl (λh=>?_) (λh=>?_)<;>rw [l_]at h)
       ·(refine b_ (h2 _ _ hn (by decide)) rfl (okQ hA) ⟨?_,trivial⟩;intro ws hw;obtain ⟨⟨op,kd,nm,fd,ad,nn,vk,vi,vf,args⟩,n,rfl,hx,hn⟩:=hw;replace hx:=e_ (e:=5) (by decide) hx);(refine b_ (h2 _ _ hn (by decide)) rfl (okQ hA) ⟨?_,trivial⟩;intro ws hw;obtain ⟨⟨op,kd,nm,fd,ad,nn,vk,vi,vf,args⟩,n,rfl,hx,hn⟩:=hw;replace hx:=e_ (e:=5) (by decide) hx);exact nl_ (x:=.mk _ (.mk _ _ _ _ _ _ _ _ _ []) (.mk _ _ _ _ _ _ _ _ _ []) [] [] _ _ _ [.mk ..,.mk ..]) rfl (L_ (by decide) (by simp) (xv_ (by assumption) (by assumption))) hn
       (refine q_ rfl rfl (λh=>?_) (λh=>?_)<;>rw [l_]at h)
       ·(refine b_ (h2 _ _ hn (by decide)) rfl (okQ hA) ⟨?_,trivial⟩;intro ws hw;obtain ⟨⟨op,kd,nm,fd,ad,nn,vk,vi,vf,args⟩,n,rfl,hx,hn⟩:=hw;replace hx:=e_ (e:=5) (by decide) hx);(refine b_ (h31 _ _ hn (by decide)) rfl (okQ hA) ⟨?_,trivial⟩;intro ws hw;obtain ⟨⟨op,kd,nm,fd,ad,nn,vk,vi,vf,args⟩,n,rfl,hx,hn⟩:=hw;replace hx:=e_ (e:=5) (by decide) hx);exact nl_ (x:=.mk _ (.mk _ _ _ _ _ _ _ _ _ []) (.mk _ _ _ _ _ _ _ _ _ []) [] [] _ _ _ [.mk ..,.mk ..]) rfl (L_ (by decide) (by simp) (xv_ (by assumption) (by assumption))) hn
       (refine q_ rfl rfl (λh=>?_) (λh=>?_)<;>rw [l_]at h)
       ·(refine b_ (h2 _ _ hn (by decide)) rfl (okQ hA) ⟨?_,trivial⟩;intro ws hw;obtain ⟨⟨op,kd,nm,fd,ad,nn,vk,vi,vf,args⟩,n,rfl,hx,hn⟩:=hw;replace hx:=e_ (e:=5) (by decide) hx);exact nl_ (x:=.mk _ (.mk _ _ _ _ _ _ _ _ _ []) (.mk _ _ _ _ _ _ _ _ _ []) [] [] _ _ _ [.mk ..]) rfl (L_ (by decide) (by simp) (yW_ (by assumption))) hn
       (refine q_ rfl rfl (λh=>?_) (λh=>?_)<;>rw [l_]at h)
       ·(refine b_ (h2 _ _ hn (by first|decide|(simp only [decide_eq_true_eq,decide_eq_false_iff_not]at *; omega))) rfl (okQ hA) ⟨?_,trivial⟩;intro ws hw;obtain ⟨⟨op,kd,nm,fd,ad,nn,vk,vi,vf,args⟩,n,rfl,hx,hn⟩:=hw);rename WX _ _=>hx0;(refine b_ (h3 _ _ hn (by decide)) rfl (okQ hA) ⟨?_,trivial⟩;intro ws hw;obtain ⟨⟨op,kd,nm,fd,ad,nn,vk,vi,vf,args⟩,n,rfl,hx,hn⟩:=hw;replace hx:=e_ (e:=5) (by decide) hx)
        exact nl_ (x:=.mk _ (.mk _ _ _ _ _ _ _ _ _ [.mk ..]) (.mk ..) [] [] _ _ _ []) rfl (s1_ (e_ (d:=4) (by decide) (xl_ (by decide) hx0)) (.inr rfl) (by assumption)) hn
       ·(refine b_ (hL_ hp hn (by first|decide|omega) (by first|decide|omega)) rfl (okP hA) ⟨?_,trivial⟩;intro ws hw;rcases hw with ⟨v,n,rfl,hv,hn⟩)
        have e6:v=0\/v=1\/v=2\/v=3\/v=4\/v=5:=(by omega);rcases e6 with rfl|rfl|rfl|rfl|rfl|rfl;all_goals
         refine vv_ rfl rfl (vv_ rfl rfl (vv_ rfl rfl (uG_ (p79 _) rfl rfl ?_)))
         (refine b_ (h4 _ _ hn (by decide)) rfl (okQ hA) ⟨?_,trivial⟩;intro ws hw;obtain ⟨⟨op,kd,nm,fd,ad,nn,vk,vi,vf,args⟩,n,rfl,hx,hn⟩:=hw;replace hx:=e_ (e:=5) (by decide) hx)
         exact nl_ (x:=.mk _ (.mk _ _ _ _ _ _ _ _ _ []) (.mk ..) [] [] _ _ _ []) rfl (s1_ (vF_ (by decide)) (.inl rfl) (by assumption)) hn)
    ·(
              (refine q_ rfl rfl (λh=>?_) (λh=>?_)<;>rw [l_]at h)
              ·(refine b_ (h2 _ _ hn (by decide)) rfl (okQ hA) ⟨?_,trivial⟩;intro ws hw;obtain ⟨⟨op,kd,nm,fd,ad,nn,vk,vi,vf,args⟩,n,rfl,hx,hn⟩:=hw;replace hx:=e_ (e:=5) (by decide) hx);(refine b_ (h2 _ _ hn (by decide)) rfl (okQ hA) ⟨?_,trivial⟩;intro ws hw;obtain ⟨⟨op,kd,nm,fd,ad,nn,vk,vi,vf,args⟩,n,rfl,hx,hn⟩:=hw;replace hx:=e_ (e:=5) (by decide) hx);exact nl_ (x:=.mk _ (.mk _ _ _ _ _ _ _ _ _ []) (.mk _ _ _ _ _ _ _ _ _ []) [] [] _ _ _ [.mk ..,.mk ..]) rfl (L_ (by decide) (by simp) (xv_ (by assumption) (by assumption))) hn
              (refine q_ rfl rfl (λh=>?_) (λh=>?_)<;>rw [l_]at h)
              ·(refine b_ (h2 _ _ hn (by decide)) rfl (okQ hA) ⟨?_,trivial⟩;intro ws hw;obtain ⟨⟨op,kd,nm,fd,ad,nn,vk,vi,vf,args⟩,n,rfl,hx,hn⟩:=hw;replace hx:=e_ (e:=5) (by decide) hx);(refine b_ (h31 _ _ hn (by decide)) rfl (okQ hA) ⟨?_,trivial⟩;intro ws hw;obtain ⟨⟨op,kd,nm,fd,ad,nn,vk,vi,vf,args⟩,n,rfl,hx,hn⟩:=hw;replace hx:=e_ (e:=5) (by decide) hx);exact nl_ (x:=.mk _ (.mk _ _ _ _ _ _ _ _ _ []) (.mk _ _ _ _ _ _ _ _ _ []) [] [] _ _ _ [.mk ..,.mk ..]) rfl (L_ (by decide) (by simp) (xv_ (by assumption) (by assumption))) hn
              (refine q_ rfl rfl (λh=>?_) (λh=>?_)<;>rw [l_]at h)
              ·(refine b_ (h2 _ _ hn (by decide)) rfl (okQ hA) ⟨?_,trivial⟩;intro ws hw;obtain ⟨⟨op,kd,nm,fd,ad,nn,vk,vi,vf,args⟩,n,rfl,hx,hn⟩:=hw;replace hx:=e_ (e:=5) (by decide) hx);exact nl_ (x:=.mk _ (.mk _ _ _ _ _ _ _ _ _ []) (.mk _ _ _ _ _ _ _ _ _ []) [] [] _ _ _ [.mk ..]) rfl (L_ (by decide) (by simp) (yW_ (by assumption))) hn
              (refine q_ rfl rfl (λh=>?_) (λh=>?_)<;>rw [l_]at h)
              ·(refine b_ (h2 _ _ hn (by first|decide|(simp only [decide_eq_true_eq,decide_eq_false_iff_not]at *; omega))) rfl (okQ hA) ⟨?_,trivial⟩;intro ws hw;obtain ⟨⟨op,kd,nm,fd,ad,nn,vk,vi,vf,args⟩,n,rfl,hx,hn⟩:=hw);rename WX _ _=>hx0;(refine b_ (h3 _ _ hn (by decide)) rfl (okQ hA) ⟨?_,trivial⟩;intro ws hw;obtain ⟨⟨op,kd,nm,fd,ad,nn,vk,vi,vf,args⟩,n,rfl,hx,hn⟩:=hw;replace hx:=e_ (e:=5) (by decide) hx)
               exact nl_ (x:=.mk _ (.mk _ _ _ _ _ _ _ _ _ [.mk ..]) (.mk ..) [] [] _ _ _ []) rfl (s1_ (e_ (d:=4) (by decide) (xl_ (by decide) hx0)) (.inr rfl) (by assumption)) hn
              ·(refine b_ (hL_ hp hn (by first|decide|omega) (by first|decide|omega)) rfl (okP hA) ⟨?_,trivial⟩;intro ws hw;rcases hw with ⟨v,n,rfl,hv,hn⟩)
               have e6:v=0\/v=1\/v=2\/v=3\/v=4\/v=5:=(by omega);rcases e6 with rfl|rfl|rfl|rfl|rfl|rfl;all_goals
                refine vv_ rfl rfl (vv_ rfl rfl (vv_ rfl rfl (uG_ (p79 _) rfl rfl ?_)))
                (refine b_ (h4 _ _ hn (by decide)) rfl (okQ hA) ⟨?_,trivial⟩;intro ws hw;obtain ⟨⟨op,kd,nm,fd,ad,nn,vk,vi,vf,args⟩,n,rfl,hx,hn⟩:=hw;replace hx:=e_ (e:=5) (by decide) hx)
                exact nl_ (x:=.mk _ (.mk _ _ _ _ _ _ _ _ _ []) (.mk ..) [] [] _ _ _ []) rfl (s1_ (vF_ (by decide)) (.inl rfl) (by assumption)) hn))
 ·(
   (refine q_ rfl rfl (λh=>?_) (λh=>?_)<;>rw [l_]at h)
   ·(refine q_ rfl rfl (λh=>?_) (λh=>?_)<;>rw [l_]at h)
    .obtain ⟨e,rfl⟩:∃e,d=e+1:=⟨d-1,by simp at h;omega⟩;have hB:=hB e rfl;refine uG_ (p79 _) rfl rfl ?_
     (refine b_ (h31 _ _ hn (by first|decide|(simp only [decide_eq_true_eq,decide_eq_false_iff_not]at *; omega))) rfl (okQ hA) ⟨?_,trivial⟩;intro ws hw;obtain ⟨⟨op,kd,nm,fd,ad,nn,vk,vi,vf,args⟩,n,rfl,hx,hn⟩:=hw)
     refine vv_ (G_ (z:=(e:Int)) (by omega) (by omega) (by omega)) rfl ?_;refine b_ (hB _ 1 hn (by decide) (by decide)) rfl (okR hA) ⟨?_,trivial⟩;rintro ws ⟨thn,n,rfl,⟨ht,hts⟩,hn⟩;refine uG_ (p79 _) rfl rfl (uG_ (p79 _) rfl rfl (uG_ p80 rfl rfl ?_));refine vv_ (vI_ thn (.mk 1 (.mk _ _ _ _ _ _ _ _ _ []) (.mk _ _ _ _ _ _ _ _ _ [.mk _ _ _ _ _ _ _ _ _ [],.mk _ _ _ _ _ _ _ _ _ []]) [] [] _ _ _ []) (by omega)) (okB _) ?_;refine nl_ (x:=.mk _ (.mk _ _ _ _ _ _ _ _ _ []) (.mk _ _ _ _ _ _ _ _ _ [.mk _ _ _ _ _ _ _ _ _ [],.mk ..]) (thn++[_]) [] _ _ _ []) rfl (yb_ (.inr rfl) ?_ ?_ (by decide) ?_ (λs hs=>(List.not_mem_nil hs).elim)) hn;exact xm_ (by decide) (y_ (by decide)) (e_ (e:=4) (by decide) hx);rw [List.length_append];simp;omega;intro s hs;rcases List.mem_append.1 hs with hs|hs;exact hts s hs;cases List.mem_singleton.1 hs;exact s1_ (vF_ (by decide)) (.inl rfl) (xm_ (by decide) (y_ (by decide)) (V_ (by unfold pW_;omega) (.inl rfl)))
    ·(
              (refine q_ rfl rfl (λh=>?_) (λh=>?_)<;>rw [l_]at h)
              ·(refine b_ (h2 _ _ hn (by decide)) rfl (okQ hA) ⟨?_,trivial⟩;intro ws hw;obtain ⟨⟨op,kd,nm,fd,ad,nn,vk,vi,vf,args⟩,n,rfl,hx,hn⟩:=hw;replace hx:=e_ (e:=5) (by decide) hx);(refine b_ (h2 _ _ hn (by decide)) rfl (okQ hA) ⟨?_,trivial⟩;intro ws hw;obtain ⟨⟨op,kd,nm,fd,ad,nn,vk,vi,vf,args⟩,n,rfl,hx,hn⟩:=hw;replace hx:=e_ (e:=5) (by decide) hx);exact nl_ (x:=.mk _ (.mk _ _ _ _ _ _ _ _ _ []) (.mk _ _ _ _ _ _ _ _ _ []) [] [] _ _ _ [.mk ..,.mk ..]) rfl (L_ (by decide) (by simp) (xv_ (by assumption) (by assumption))) hn
              (refine q_ rfl rfl (λh=>?_) (λh=>?_)<;>rw [l_]at h)
              ·(refine b_ (h2 _ _ hn (by decide)) rfl (okQ hA) ⟨?_,trivial⟩;intro ws hw;obtain ⟨⟨op,kd,nm,fd,ad,nn,vk,vi,vf,args⟩,n,rfl,hx,hn⟩:=hw;replace hx:=e_ (e:=5) (by decide) hx);(refine b_ (h31 _ _ hn (by decide)) rfl (okQ hA) ⟨?_,trivial⟩;intro ws hw;obtain ⟨⟨op,kd,nm,fd,ad,nn,vk,vi,vf,args⟩,n,rfl,hx,hn⟩:=hw;replace hx:=e_ (e:=5) (by decide) hx);exact nl_ (x:=.mk _ (.mk _ _ _ _ _ _ _ _ _ []) (.mk _ _ _ _ _ _ _ _ _ []) [] [] _ _ _ [.mk ..,.mk ..]) rfl (L_ (by decide) (by simp) (xv_ (by assumption) (by assumption))) hn
              (refine q_ rfl rfl (λh=>?_) (λh=>?_)<;>rw [l_]at h)
              ·(refine b_ (h2 _ _ hn (by decide)) rfl (okQ hA) ⟨?_,trivial⟩;intro ws hw;obtain ⟨⟨op,kd,nm,fd,ad,nn,vk,vi,vf,args⟩,n,rfl,hx,hn⟩:=hw;replace hx:=e_ (e:=5) (by decide) hx);exact nl_ (x:=.mk _ (.mk _ _ _ _ _ _ _ _ _ []) (.mk _ _ _ _ _ _ _ _ _ []) [] [] _ _ _ [.mk ..]) rfl (L_ (by decide) (by simp) (yW_ (by assumption))) hn
              (refine q_ rfl rfl (λh=>?_) (λh=>?_)<;>rw [l_]at h)
              ·(refine b_ (h2 _ _ hn (by first|decide|(simp only [decide_eq_true_eq,decide_eq_false_iff_not]at *; omega))) rfl (okQ hA) ⟨?_,trivial⟩;intro ws hw;obtain ⟨⟨op,kd,nm,fd,ad,nn,vk,vi,vf,args⟩,n,rfl,hx,hn⟩:=hw);rename WX _ _=>hx0;(refine b_ (h3 _ _ hn (by decide)) rfl (okQ hA) ⟨?_,trivial⟩;intro ws hw;obtain ⟨⟨op,kd,nm,fd,ad,nn,vk,vi,vf,args⟩,n,rfl,hx,hn⟩:=hw;replace hx:=e_ (e:=5) (by decide) hx)
               exact nl_ (x:=.mk _ (.mk _ _ _ _ _ _ _ _ _ [.mk ..]) (.mk ..) [] [] _ _ _ []) rfl (s1_ (e_ (d:=4) (by decide) (xl_ (by decide) hx0)) (.inr rfl) (by assumption)) hn
              ·(refine b_ (hL_ hp hn (by first|decide|omega) (by first|decide|omega)) rfl (okP hA) ⟨?_,trivial⟩;intro ws hw;rcases hw with ⟨v,n,rfl,hv,hn⟩)
               have e6:v=0\/v=1\/v=2\/v=3\/v=4\/v=5:=(by omega);rcases e6 with rfl|rfl|rfl|rfl|rfl|rfl;all_goals
                refine vv_ rfl rfl (vv_ rfl rfl (vv_ rfl rfl (uG_ (p79 _) rfl rfl ?_)))
                (refine b_ (h4 _ _ hn (by decide)) rfl (okQ hA) ⟨?_,trivial⟩;intro ws hw;obtain ⟨⟨op,kd,nm,fd,ad,nn,vk,vi,vf,args⟩,n,rfl,hx,hn⟩:=hw;replace hx:=e_ (e:=5) (by decide) hx)
                exact nl_ (x:=.mk _ (.mk _ _ _ _ _ _ _ _ _ []) (.mk ..) [] [] _ _ _ []) rfl (s1_ (vF_ (by decide)) (.inl rfl) (by assumption)) hn)
   ·(
     (refine q_ rfl rfl (λh=>?_) (λh=>?_)<;>rw [l_]at h)
     ·(refine b_ (h2 _ _ hn (by decide)) rfl (okQ hA) ⟨?_,trivial⟩;intro ws hw;obtain ⟨⟨op,kd,nm,fd,ad,nn,vk,vi,vf,args⟩,n,rfl,hx,hn⟩:=hw;replace hx:=e_ (e:=5) (by decide) hx);(refine b_ (h2 _ _ hn (by decide)) rfl (okQ hA) ⟨?_,trivial⟩;intro ws hw;obtain ⟨⟨op,kd,nm,fd,ad,nn,vk,vi,vf,args⟩,n,rfl,hx,hn⟩:=hw;replace hx:=e_ (e:=5) (by decide) hx);exact nl_ (x:=.mk _ (.mk _ _ _ _ _ _ _ _ _ []) (.mk _ _ _ _ _ _ _ _ _ []) [] [] _ _ _ [.mk ..,.mk ..]) rfl (L_ (by decide) (by simp) (xv_ (by assumption) (by assumption))) hn
     (refine q_ rfl rfl (λh=>?_) (λh=>?_)<;>rw [l_]at h)
     ·(refine b_ (h2 _ _ hn (by decide)) rfl (okQ hA) ⟨?_,trivial⟩;intro ws hw;obtain ⟨⟨op,kd,nm,fd,ad,nn,vk,vi,vf,args⟩,n,rfl,hx,hn⟩:=hw;replace hx:=e_ (e:=5) (by decide) hx);(refine b_ (h31 _ _ hn (by decide)) rfl (okQ hA) ⟨?_,trivial⟩;intro ws hw;obtain ⟨⟨op,kd,nm,fd,ad,nn,vk,vi,vf,args⟩,n,rfl,hx,hn⟩:=hw;replace hx:=e_ (e:=5) (by decide) hx);exact nl_ (x:=.mk _ (.mk _ _ _ _ _ _ _ _ _ []) (.mk _ _ _ _ _ _ _ _ _ []) [] [] _ _ _ [.mk ..,.mk ..]) rfl (L_ (by decide) (by simp) (xv_ (by assumption) (by assumption))) hn
     (refine q_ rfl rfl (λh=>?_) (λh=>?_)<;>rw [l_]at h)
     ·(refine b_ (h2 _ _ hn (by decide)) rfl (okQ hA) ⟨?_,trivial⟩;intro ws hw;obtain ⟨⟨op,kd,nm,fd,ad,nn,vk,vi,vf,args⟩,n,rfl,hx,hn⟩:=hw;replace hx:=e_ (e:=5) (by decide) hx);exact nl_ (x:=.mk _ (.mk _ _ _ _ _ _ _ _ _ []) (.mk _ _ _ _ _ _ _ _ _ []) [] [] _ _ _ [.mk ..]) rfl (L_ (by decide) (by simp) (yW_ (by assumption))) hn
     (refine q_ rfl rfl (λh=>?_) (λh=>?_)<;>rw [l_]at h)
     ·(refine b_ (h2 _ _ hn (by first|decide|(simp only [decide_eq_true_eq,decide_eq_false_iff_not]at *; omega))) rfl (okQ hA) ⟨?_,trivial⟩;intro ws hw;obtain ⟨⟨op,kd,nm,fd,ad,nn,vk,vi,vf,args⟩,n,rfl,hx,hn⟩:=hw);rename WX _ _=>hx0;(refine b_ (h3 _ _ hn (by decide)) rfl (okQ hA) ⟨?_,trivial⟩;intro ws hw;obtain ⟨⟨op,kd,nm,fd,ad,nn,vk,vi,vf,args⟩,n,rfl,hx,hn⟩:=hw;replace hx:=e_ (e:=5) (by decide) hx)
      exact nl_ (x:=.mk _ (.mk _ _ _ _ _ _ _ _ _ [.mk ..]) (.mk ..) [] [] _ _ _ []) rfl (s1_ (e_ (d:=4) (by decide) (xl_ (by decide) hx0)) (.inr rfl) (by assumption)) hn
     ·(refine b_ (hL_ hp hn (by first|decide|omega) (by first|decide|omega)) rfl (okP hA) ⟨?_,trivial⟩;intro ws hw;rcases hw with ⟨v,n,rfl,hv,hn⟩)
      have e6:v=0\/v=1\/v=2\/v=3\/v=4\/v=5:=(by omega);rcases e6 with rfl|rfl|rfl|rfl|rfl|rfl;all_goals
       refine vv_ rfl rfl (vv_ rfl rfl (vv_ rfl rfl (uG_ (p79 _) rfl rfl ?_)))
       (refine b_ (h4 _ _ hn (by decide)) rfl (okQ hA) ⟨?_,trivial⟩;intro ws hw;obtain ⟨⟨op,kd,nm,fd,ad,nn,vk,vi,vf,args⟩,n,rfl,hx,hn⟩:=hw;replace hx:=e_ (e:=5) (by decide) hx)
       exact nl_ (x:=.mk _ (.mk _ _ _ _ _ _ _ _ _ []) (.mk ..) [] [] _ _ _ []) rfl (s1_ (vF_ (by decide)) (.inl rfl) (by assumption)) hn))
theorem p70 {l:List UInt8} {a:AV} (hp:Pk l a) (d:Nat) (hd2:d<=100) (hS:PS l a d):PB l a d:=by
 intro n m hn hm1 hm2;have hA:=hp.1.ok wt_;refine vh_ (c:=c70) (n:=300) (t:=t70) mo ov rfl (λY _=>vC_ _) (by kernel_rfl) λY hf hg=>?_;unfold t70
 (refine b_ (hL_ hp hn (by first|decide|omega) (by first|decide|omega)) rfl (okP hA) ⟨?_,trivial⟩;intro ws hw;rcases hw with ⟨v,n,rfl,hv,hn⟩)
 refine vv_ (g_ (by omega) (by omega)) rfl ?_;refine uI_ (ι:=Nat×List GS×Nat) (λx=>[.int .i64 (x.1:Int),P_ x.2.1,.int .i64 (x.2.2:Int)]) (λx=>x.1+x.2.1.length<=m/\(∀s∈x.2.1,WS (d+1) s)/\x.2.2<=l.length) (λx=>x.1) (v+1,[],n)
  ⟨by simp;omega,λs hs=>(List.not_mem_nil hs).elim,hn⟩ rfl (λx _=>by simp only [okL,okC,okB]) (λx y _ _ h=>by simp at h;omega) (λx hx=>?_)
 obtain ⟨i,ss,n⟩:=x;obtain ⟨h1,h2,hn⟩:=hx;simp only at h1 hn h2⊢
 (refine q_ rfl rfl (λh=>?_) (λh=>?_)<;>rw [l_]at h)
 refine b_ (hS _ hn) rfl (okP hA) ⟨?_,trivial⟩;rintro ws ⟨⟨op,⟨op1,kd1,nm1,fd1,ad1,nn1,vk1,vi1,vf1,args1⟩,⟨op2,kd2,nm2,fd2,ad2,nn2,vk2,vi2,vf2,xw_⟩,thn,els,nm,kd,ad,args⟩,n,rfl,hx,hn⟩;refine vv_ (vI_ ss (.mk op (.mk op1 kd1 nm1 fd1 ad1 nn1 vk1 vi1 vf1 args1) (.mk op2 kd2 nm2 fd2 ad2 nn2 vk2 vi2 vf2 xw_) thn els nm kd ad args) (by omega)) (okB _) ?_;obtain ⟨i,rfl⟩:∃e,i=e+1:=⟨i-1,by simp at h;omega⟩;refine vv_ (G_ (z:=(i:Int)) (by omega) (by omega) (by omega)) rfl ?_;refine uu_ rfl ⟨(i,ss++[_],n),⟨?_,?_,hn⟩,rfl,by simp⟩;simp;omega;intro s hs;rcases List.mem_append.1 hs with hs|hs;exact h2 s hs;cases List.mem_singleton.1 hs;exact hx;exact VOK_fin (by show okL [P_ ss,.int .i64 (n:Int)]=true;simp only [okL,okC,okB]) ⟨ss,n,rfl,⟨by omega,h2⟩,hn⟩
theorem pS {l:List UInt8} {a:AV} (hp:Pk l a):∀d:Nat,d<=100->PS l a d/\PB l a d
 |0,h=>by have h1:=B3_ hp 0 h (λe h=>by omega);exact ⟨h1,p70 hp 0 h h1⟩
 |d+1,h=>by have ih:=pS hp d (by omega);have h1:=B3_ hp (d+1) h (λe h=>by cases h;exact ih.2);exact ⟨h1,p70 hp (d+1) h h1⟩
end Go.Proofs.YtjconanknjgpnaaGreat.vars
set_option maxRecDepth 100000
set_option linter.unusedVariables false
set_option linter.unusedSimpArgs false
namespace Go.Proofs.YtjconanknjgpnaaGreat.vars
open Go Go.Sx
def VARS:AV:=.vsl 12 10 [.str [97],.int .i64 1,.int .i64 2,.int .i64 0,.int .i64 2,.int .i64 0,.flt .f64 0,.int .i64 0,.int .i64 0,.flt .f64 0,.str [98],.int .i64 1,.int .i64 1,.int .i64 0,.int .i64 1,.int .i64 0,.flt .f64 0,.int .i64 0,.int .i64 0,.flt .f64 0,.str [111],.int .i64 2,.int .i64 2,.int .i64 0,.int .i64 2,.int .i64 0,.flt .f64 0,.int .i64 2,.int .i64 7,.flt .f64 0,.str [113],.int .i64 2,.int .i64 1,.int .i64 0,.int .i64 1,.int .i64 0,.flt .f64 0,.int .i64 1,.int .i64 1,.flt .f64 0,.str [120],.int .i64 3,.int .i64 2,.int .i64 0,.int .i64 2,.int .i64 5,.flt .f64 0,.int .i64 0,.int .i64 0,.flt .f64 0,.str [121],.int .i64 3,.int .i64 3,.int .i64 0,.int .i64 3,.int .i64 0,.flt .f64 0,.int .i64 0,.int .i64 0,.flt .f64 0,.str [122],.int .i64 3,.int .i64 5,.int .i64 0,.int .i64 5,.int .i64 0,.flt .f64 0,.int .i64 0,.int .i64 0,.flt .f64 0,.str [119],.int .i64 3,.int .i64 4,.int .i64 0,.int .i64 4,.int .i64 0,.flt .f64 0,.int .i64 0,.int .i64 0,.flt .f64 0,.str [107],.int .i64 3,.int .i64 2,.int .i64 4,.int .i64 2,.int .i64 0,.flt .f64 0,.int .i64 0,.int .i64 0,.flt .f64 0,.str [116,109],.int .i64 3,.int .i64 6,.int .i64 0,.int .i64 0,.int .i64 0,.flt .f64 0,.int .i64 0,.int .i64 0,.flt .f64 0,.str [99],.int .i64 3,.int .i64 9,.int .i64 0,.int .i64 0,.int .i64 0,.flt .f64 0,.int .i64 0,.int .i64 0,.flt .f64 0,.str [101],.int .i64 3,.int .i64 11,.int .i64 0,.int .i64 0,.int .i64 0,.flt .f64 0,.int .i64 0,.int .i64 0,.flt .f64 0]
theorem zc_:kH_ Tryz.prog 153 [VARS,.str [97]] (.tup [.agg [.str [97],.int .i64 1,.int .i64 2,.int .i64 0,.int .i64 2,.int .i64 0,.flt .f64 0,.int .i64 0,.int .i64 0,.flt .f64 0],.int .i64 0,.bool true]):=vj_ mo ov (n:=3000) (by kernel_rfl)
theorem zd_:kH_ Tryz.prog 153 [VARS,.str [98]] (.tup [.agg [.str [98],.int .i64 1,.int .i64 1,.int .i64 0,.int .i64 1,.int .i64 0,.flt .f64 0,.int .i64 0,.int .i64 0,.flt .f64 0],.int .i64 1,.bool true]):=vj_ mo ov (n:=3000) (by kernel_rfl)
theorem yk_:kH_ Tryz.prog 153 [VARS,.str [111]] (.tup [.agg [.str [111],.int .i64 2,.int .i64 2,.int .i64 0,.int .i64 2,.int .i64 0,.flt .f64 0,.int .i64 2,.int .i64 7,.flt .f64 0],.int .i64 2,.bool true]):=vj_ mo ov (n:=3000) (by kernel_rfl)
theorem yl_:kH_ Tryz.prog 153 [VARS,.str [113]] (.tup [.agg [.str [113],.int .i64 2,.int .i64 1,.int .i64 0,.int .i64 1,.int .i64 0,.flt .f64 0,.int .i64 1,.int .i64 1,.flt .f64 0],.int .i64 3,.bool true]):=vj_ mo ov (n:=3000) (by kernel_rfl)
theorem yn_:kH_ Tryz.prog 153 [VARS,.str [120]] (.tup [.agg [.str [120],.int .i64 3,.int .i64 2,.int .i64 0,.int .i64 2,.int .i64 5,.flt .f64 0,.int .i64 0,.int .i64 0,.flt .f64 0],.int .i64 4,.bool true]):=vj_ mo ov (n:=3000) (by kernel_rfl)
theorem yo_:kH_ Tryz.prog 153 [VARS,.str [121]] (.tup [.agg [.str [121],.int .i64 3,.int .i64 3,.int .i64 0,.int .i64 3,.int .i64 0,.flt .f64 0,.int .i64 0,.int .i64 0,.flt .f64 0],.int .i64 5,.bool true]):=vj_ mo ov (n:=3000) (by kernel_rfl)
theorem yp_:kH_ Tryz.prog 153 [VARS,.str [122]] (.tup [.agg [.str [122],.int .i64 3,.int .i64 5,.int .i64 0,.int .i64 5,.int .i64 0,.flt .f64 0,.int .i64 0,.int .i64 0,.flt .f64 0],.int .i64 6,.bool true]):=vj_ mo ov (n:=3000) (by kernel_rfl)
theorem ym_:kH_ Tryz.prog 153 [VARS,.str [119]] (.tup [.agg [.str [119],.int .i64 3,.int .i64 4,.int .i64 0,.int .i64 4,.int .i64 0,.flt .f64 0,.int .i64 0,.int .i64 0,.flt .f64 0],.int .i64 7,.bool true]):=vj_ mo ov (n:=3000) (by kernel_rfl)
theorem xp_:kH_ Tryz.prog 153 [VARS,.str [107]] (.tup [.agg [.str [107],.int .i64 3,.int .i64 2,.int .i64 4,.int .i64 2,.int .i64 0,.flt .f64 0,.int .i64 0,.int .i64 0,.flt .f64 0],.int .i64 8,.bool true]):=vj_ mo ov (n:=3000) (by kernel_rfl)
theorem am_:kH_ Tryz.prog 153 [VARS,.str [116,109]] (.tup [.agg [.str [116,109],.int .i64 3,.int .i64 6,.int .i64 0,.int .i64 0,.int .i64 0,.flt .f64 0,.int .i64 0,.int .i64 0,.flt .f64 0],.int .i64 12,.bool true]):=vj_ mo ov (n:=3000) (by kernel_rfl)
theorem xZ_:kH_ Tryz.prog 153 [VARS,.str [99]] (.tup [.agg [.str [99],.int .i64 3,.int .i64 9,.int .i64 0,.int .i64 0,.int .i64 0,.flt .f64 0,.int .i64 0,.int .i64 0,.flt .f64 0],.int .i64 16,.bool true]):=vj_ mo ov (n:=3000) (by kernel_rfl)
theorem zT_:kH_ Tryz.prog 153 [VARS,.str [101]] (.tup [.agg [.str [101],.int .i64 3,.int .i64 11,.int .i64 0,.int .i64 0,.int .i64 0,.flt .f64 0,.int .i64 0,.int .i64 0,.flt .f64 0],.int .i64 19,.bool true]):=vj_ mo ov (n:=3000) (by kernel_rfl)
theorem vX_:kH_ Tryz.prog 178 [VARS,.str [116,109,46,113]] (.tup [.agg [.str [116,109,46,113],.int .i64 12,.int .i64 1,.int .i64 3],.bool true]):=vj_ mo ov (n:=3000) (by kernel_rfl)
theorem ws_:kH_ Tryz.prog 178 [VARS,.str [99,46,99,118]] (.tup [.agg [.str [99,46,99,118],.int .i64 17,.int .i64 2,.int .i64 3],.bool true]):=vj_ mo ov (n:=3000) (by kernel_rfl)
theorem uN_:kH_ Tryz.prog 178 [VARS,.str [116,109,46,101,116]] (.tup [.agg [.str [116,109,46,101,116],.int .i64 13,.int .i64 4,.int .i64 3],.bool true]):=vj_ mo ov (n:=3000) (by kernel_rfl)
theorem k35:kH_ Tryz.prog 45 [VARS] (.int .i64 0):=vj_ mo ov (n:=3000) (by kernel_rfl)
theorem k37:kH_ Tryz.prog 20 [] VARS:=vj_ mo ov (n:=3000) (by kernel_rfl)
theorem k67 (v:Nat) (h:v<50):kH_ Tryz.prog 55 [.int .i64 2,.int .i64 (v:Int)] (.int .i64 (v:Int)):=by
 have:∀v∈List.range 50,kH_ Tryz.prog 55 [.int .i64 2,.int .i64 (v:Int)] (.int .i64 (v:Int)):=by
  simp only [List.range,List.range.loop,List.forall_mem_cons];repeat' apply And.intro
  all_goals first|exact (λx hx=>(List.not_mem_nil hx).elim)|exact vj_ mo ov (n:=3000) (by kernel_rfl)
 exact this v (List.mem_range.2 h)
theorem Al_:kH_ Tryz.prog 53 [.int .i64 1] (.int .i64 1):=vj_ mo ov (n:=3000) (by kernel_rfl)
theorem za_:kH_ Tryz.prog 53 [.int .i64 2] (.int .i64 1):=vj_ mo ov (n:=3000) (by kernel_rfl)
theorem BQ_:kH_ Tryz.prog 53 [.int .i64 3] (.int .i64 1):=vj_ mo ov (n:=3000) (by kernel_rfl)
theorem BR_:kH_ Tryz.prog 53 [.int .i64 4] (.int .i64 1):=vj_ mo ov (n:=3000) (by kernel_rfl)
theorem BS_:kH_ Tryz.prog 53 [.int .i64 5] (.int .i64 1):=vj_ mo ov (n:=3000) (by kernel_rfl)
theorem zb_:kH_ Tryz.prog 53 [.int .i64 6] (.int .i64 4):=vj_ mo ov (n:=3000) (by kernel_rfl)
theorem Am_:kH_ Tryz.prog 53 [.int .i64 9] (.int .i64 3):=vj_ mo ov (n:=3000) (by kernel_rfl)
theorem AU_:kH_ Tryz.prog 53 [.int .i64 11] (.int .i64 2):=vj_ mo ov (n:=3000) (by kernel_rfl)
def Df_:VC:=⟨⟨[],[]⟩,[],[],0,true,[]⟩
def Cv_:VT:=.ite 64 (.done (J 0))<|.done (J 4)
def Dg_:VC:=⟨⟨[],[]⟩,[],[],0,true,[]⟩
def Cw_:VT:=Iq 64 2 65 (.done (.bool true))<|Iq 64 3 66 (.done (.bool true))<|Li Q0 [64,J 4] 67<|.done (67)
def Br_:VC:=⟨⟨[],[]⟩,[(55,[none])],[],0,true,[]⟩
def z5_:VT:=Iq 74 2 75 (Iq 64 1 76 (Iq 65 3 77 (.call 55 [J 2,71] 78 [none]<|.done (.agg [64,J 2,66,67,68,69,J 2,78,.flt .f64 0,73]))<|.done (.agg [64,65,66,67,68,69,70,71,72,73]))<|.done (.agg [64,65,66,67,68,69,70,71,72,73]))<|.done (.agg [64,65,66,67,68,69,70,71,72,73])
def Dd_:VC:=⟨⟨[],[]⟩,[(153,[(some 10),none,none]),(178,[(some 4),none]),(53,[none]),(157,[none])],[],0,true,[]⟩
def Ct_:VT:=.call 153 [64,67] 75 [(some 10),none,none]<|It Q3 [86] 87 (Dn [65,66,67,68,69,70,71,72,73,74,J 3])<|It (.bin .eql 9 false true) [68,.str []] 88 (.call 53 [77] 89 [none]<|Iq 89 1 90 (Li Q0 [78,J 0] 91<|.call 157 [91] 92 [none]<|Dn [65,77,67,68,85,70,71,72,73,74,92])<|.call 157 [.bool false] 91 [none]<|Dn [65,77,67,68,85,70,71,72,73,74,91])<|.call 53 [77] 89 [none]<|It Z6 [89,J 2] 90 (Dn [65,66,67,68,69,70,71,72,73,74,J 4])<|Li (.bin .add 9 false true) [67,.str [46]] 91<|Li (.bin .add 9 false false) [91,68] 92<|.call 178 [64,92] 93 [(some 4),none]<|It Q3 [97] 98 (Dn [65,66,67,68,69,70,71,72,73,74,J 3])<|Dn [65,95,67,68,94,70,71,72,73,74,J 0]
def De_:VC:=⟨⟨[],[]⟩,[(153,[(some 10),none,none]),(157,[none])],[],0,true,[]⟩
def Cu_:VT:=.call 153 [64,67] 76 [(some 10),none,none]<|It Q3 [87] 88 (Dn [65,66,67,68,69,70,71,72,73,74,J 3])<|It Qc [79,J 0] 89 (Li Qa [75,J 0] 90<|Li Ze [90] 91<|Li Qu [91] 92<|Iq 92 2 93 (.call 157 [.bool true] 94 [none]<|Dn [65,78,67,68,86,79,71,72,73,75,94])<|Li Qa [75,J 0] 94<|Li Ze [94] 95<|Li Qu [95] 96<|Li Q0 [96,J 3] 97<|.call 157 [97] 98 [none]<|Dn [65,78,67,68,86,79,71,72,73,75,98])<|.call 157 [.bool false] 90 [none]<|Dn [65,78,67,68,86,79,71,72,73,75,90]
theorem wQ_ (b:Bool):kH_ Tryz.prog 157 [.bool b] (.int .i64 (if b=true then 0 else 4)):=by refine t6_ (sh:=[none]) (ls:=[.bool b]) (c:=Df_) (n:=300) (t:=Cv_) mo ov rfl rfl rfl (λY _=>vC_ _) rfl (by kernel_rfl) λY hf hg=>?_;unfold Cv_;refine ve_ rfl (λh=>uH_ ?_) (λh=>uH_ ?_);rw [h];rfl;rw [h];rfl
section
variable {P:Program} {Q:AV->Prop} {L:List (Nat->List AV->Prop)} {Y:Sy} {t:TypeId} {cx cy:Bool} {args:List AV} {n:Nat} {A B:VT} {k:IntKind} {a b:Int}
def Cmp:BinOp->Int->Int->Prop
 | .eql,a,b=>a=b
 | .neq,a,b=>¬a=b
 | .lss,a,b=>a<b
 | .gtr,a,b=>b<a
 | .leq,a,b=>a<=b
 | .geq,a,b=>b<=a
 |_,_,_=>False
open Classical in
theorem a_ {op:BinOp} (h0:ab_ Y.v args=[.int k a,.int k b]) (ho:(match op with| .eql=>true| .neq=>true| .lss=>true| .gtr=>true| .leq=>true| .geq=>true|_=>false)=true)
  (h1:Cmp op a b->VOK P Q L (Y.put n (.bool (decide (Cmp op a b)))) A) (h2:¬Cmp op a b->VOK P Q L (Y.put n (.bool (decide (Cmp op a b)))) B):VOK P Q L Y (.lt (.bin op t cx cy) args n none (.ite n A B)):=by
 have hr:(XOp.bin op t cx cy).run P [.int k a,.int k b]=some (.bool (decide (Cmp op a b))):=by
  cases op<;>simp only at ho<;>first|(cases ho;done)|skip
  .rw [run_eql];refine congrArg (λx=>some (AV.bool x)) ?_;by_cases h:a=b<;>simp [Cmp,h]
  .rw [run_neq];refine congrArg (λx=>some (AV.bool x)) ?_;by_cases h:a=b<;>simp [Cmp,h]
  .rw [run_lss];refine congrArg (λx=>some (AV.bool x)) ?_;by_cases h:a<b<;>simp [Cmp,h]
  .rw [run_leq];refine congrArg (λx=>some (AV.bool x)) ?_;by_cases h:a<=b<;>simp [Cmp,h]
  .rw [run_gtr];refine congrArg (λx=>some (AV.bool x)) ?_;by_cases h:b<a<;>simp [Cmp,h]
  .rw [run_geq];refine congrArg (λx=>some (AV.bool x)) ?_;by_cases h:b<=a<;>simp [Cmp,h]
 exact vv_ (by rw [h0];exact hr) rfl (ve_ (t:=decide (Cmp op a b)) (by rw [vQ_,if_pos rfl]) (λh=>h1 (of_decide_eq_true h)) (λh=>h2 (of_decide_eq_false h)))
end
theorem nc:(∀a b,Cmp .eql a b=(a=b))/\(∀a b,Cmp .neq a b=¬a=b)/\(∀a b,Cmp .lss a b=(a<b))/\(∀a b,Cmp .gtr a b=(b<a))/\(∀a b,Cmp .leq a b=(a<=b))/\(∀a b,Cmp .geq a b=(b<=a))/\(∀p:Prop,(¬¬p)=p)/\(∀a b:Int,(¬a<b)=(b<=a))/\(∀a b:Int,(¬a<=b)=(b<a))/\(¬True)=False:=
 ⟨λ_ _=>rfl,λ_ _=>rfl,λ_ _=>rfl,λ_ _=>rfl,λ_ _=>rfl,λ_ _=>rfl,λp=>propext ⟨Classical.not_not.1,λh k=>k h⟩,λ_ _=>propext Int.not_lt,λ_ _=>propext Int.not_le,propext ⟨λh=>h trivial,False.elim⟩⟩
def u6_:List (Int×Int):=[(1,1),(3,1),(12,1),(0,2),(4,2),(2,2),(17,2),(5,3),(13,4),(7,4),(6,5)]
def Aa_:List (List UInt8×List UInt8×Int×Int):=[([98],[],1,1),([113],[],3,1),([116,109],[113],12,1),([97],[],0,2),([120],[],4,2),([111],[],2,2),([99],[99,118],17,2),([121],[],5,3),([116,109],[101,116],13,4),([119],[],7,4),([122],[],6,5)]
def zr_:List (List UInt8×Int):=[([98],1),([113],2),([116,109],3),([97],1),([120],3),([111],2),([99],3),([121],3),([119],3),([122],3),([107],3)]
def wrL:List (Int×Int):=[(3,1),(4,2),(2,2),(5,3),(7,4),(6,5)]
theorem tie_cells:∀t∈Aa_,(t.2.2.1,t.2.2.2)∈u6_:=by decide
theorem tie_wr:∀t∈Aa_,∀q∈zr_,t.2.1=[]->t.1=q.1->q.2≠1->(t.2.2.1,t.2.2.2)∈wrL:=by decide
def GX.ad:GX->Int| .mk _ _ _ _ ad .. =>ad
def NT (x y:GX):Prop:=match x,y with
 | .mk op _ nm fd ..,.mk _ kd _ _ ad .. =>op=2->(nm,fd,ad,kd)∈Aa_
def KX (op kd ad n vk vi:Int) (vf:Nat) (ks:List Int):Prop:=
 (op=1->kd=vk/\1<=vk/\vk<=5/\0<=vi/\vi<50/\(vk=1->vi<=1)/\(vk=5->vi=0)/\(vk≠5->vf=0))/\
 (op=2->(ad,kd)∈u6_)/\
 (op=3->ad=8/\n=4/\kd=2/\∃k,ks=[k]/\(k=2\/k=3))/\
 (4<=op/\op<=14->∃k,ks=[k,k]/\1<=k/\k<=5/\(op<=8->kd=k/\k≠1)/\(9<=op->kd=1)/\(op=8->k≠5)/\(op=11\/op=12->k≠1)/\(13<=op->k=1))/\
 (op=15->kd=1/\ks=[1])/\
 (op=16->ks=[kd]/\2<=kd/\kd<=5)/\
 (op=17->2<=kd/\kd<=5/\∃k,ks=[k]/\2<=k/\k<=5)
def TX:Nat->GX->Prop
 |0,_=>False
 |d+1,.mk op kd nm fd ad n vk vi vf args=>Ari op args.length/\yV_ vf/\1<=kd/\kd<=5/\KX op kd ad n vk vi vf (args.map GX.kd)/\∀a∈args,TX d a
theorem xk_:∀{d e:Nat} {x:GX},d<=e->TX d x->TX e x
 |0,_,_,_,h=>h.elim
 |d+1,0,_,h,_=>by omega
 |d+1,e+1,.mk ..,h,⟨h1,h2,h3,h4,h5,h6⟩=>⟨h1,h2,h3,h4,h5,λa ha=>xk_ (by omega) (h6 a ha)⟩
theorem Ai_:∀{d:Nat} {x:GX},TX d x->1<=x.kd/\x.kd<=5
 |0,_,h=>h.elim
 |d+1,.mk ..,h=>⟨h.2.2.1,h.2.2.2.1⟩
theorem Y_ {l:List AV} (h:okL l=true):aX_ (.agg l)=true:=by simp only [aX_];exact b5_ h
theorem yM_ {d:Nat} (x:GX) (k:Int) (hx:TX d x):∃y,kH_ Tryz.prog 154 [.agg (m_ x),.int .i64 k] (.agg (m_ y))/\TX d y:=by
 obtain ⟨op,kd,nm,fd,ad,n,vk,vi,vf,args⟩:=x;obtain ⟨d,rfl⟩:∃e,d=e+1:=by cases d with|zero=>exact hx.elim|succ d=>exact ⟨d,rfl⟩
 by_cases hc:k=2/\op=1/\kd=3
 .obtain ⟨rfl,rfl,rfl⟩:=hc;obtain ⟨h1,h2,h3,h4,h5,h6⟩:=hx;obtain ⟨q1,q2,q3,q4,q5,q6,q7,q8⟩:=h5.1 rfl;obtain ⟨v,rfl⟩:∃v:Nat,vi=(v:Int):=⟨vi.toNat,by omega⟩;refine ⟨.mk 1 2 nm fd ad n 2 v 0 args,?_,h1,.inl rfl,by decide,by decide,⟨λ_=>⟨rfl,by decide,by decide,q4,q5,λh=>by omega,λh=>by omega,λ_=>rfl⟩,λh=>by omega,λh=>by omega,λh=>by omega,λh=>by omega,λh=>by omega,λh=>by omega⟩,h6⟩;refine t6_ (sh:=[some 10,none]) (ls:=m_ (.mk 1 3 nm fd ad n vk v vf args)++[.int .i64 2]) (c:=Br_) (n:=300) (t:=z5_) mo ov rfl (vb_ _ _) (Y_ (okX _)) (λY _=>vC_ _) rfl (by kernel_rfl) λY hf hg=>?_;unfold z5_
  (refine a_ rfl rfl ?_ ?_<;>intro h<;>simp only [nc]at h<;>try omega);(refine a_ rfl rfl ?_ ?_<;>intro h<;>simp only [nc]at h<;>try omega);(refine a_ rfl rfl ?_ ?_<;>intro h<;>simp only [nc]at h<;>try omega)
  refine uG_ (k67 v (by omega)) rfl rfl (uH_ rfl)
 .refine ⟨_,?_,hx⟩;refine t6_ (sh:=[some 10,none]) (ls:=m_ (.mk op kd nm fd ad n vk vi vf args)++[.int .i64 k]) (c:=Br_) (n:=300) (t:=z5_) mo ov rfl (vb_ _ _) (Y_ (okX _)) (λY _=>vC_ _) rfl (by kernel_rfl) λY hf hg=>?_;unfold z5_
  (refine a_ rfl rfl ?_ ?_<;>intro h<;>simp only [nc]at h<;>try omega)
  ·(refine a_ rfl rfl ?_ ?_<;>intro h<;>simp only [nc]at h<;>try omega)
   ·(refine a_ rfl rfl ?_ ?_<;>intro h<;>simp only [nc]at h<;>try omega)
    exact uH_ rfl
   exact uH_ rfl
  exact uH_ rfl
def GX.nm:GX->List UInt8| .mk _ _ nm .. =>nm
def GX.fd:GX->List UInt8| .mk _ _ _ fd .. =>fd
def RL (x:GX):Nat->List AV->Prop:=λ_ ws=>∃ad kd:Int,ws=(match x with| .mk op _ nm fd _ n vk vi vf args=>m_ (.mk op kd nm fd ad n vk vi vf args))++[.int .i64 0]/\(x.nm,x.fd,ad,kd)∈Aa_
theorem DO_ (op kd:Int) (nm fd:List UInt8) (ad n vk vi:Int) (vf:Nat) (args:List GX) (h:(nm,fd)∈wO_):CF Tryz.prog 155 y2_ (VARS::m_ (.mk op kd nm fd ad n vk vi vf args)) (RL (.mk op kd nm fd ad n vk vi vf args)):=by
 refine vh_ (c:=Dd_) (n:=300) (t:=Ct_) mo ov rfl (λY _=>vC_ _) (by kernel_rfl) λY hf hg=>?_;unfold Ct_;simp only [wO_,List.mem_cons,Prod.mk.injEq,List.not_mem_nil,or_false]at h;rcases h with ⟨rfl,rfl⟩|⟨rfl,rfl⟩|⟨rfl,rfl⟩|⟨rfl,rfl⟩|⟨rfl,rfl⟩|⟨rfl,rfl⟩|⟨rfl,rfl⟩|⟨rfl,rfl⟩|⟨rfl,rfl⟩|⟨rfl,rfl⟩|⟨rfl,rfl⟩
 ·(
   refine uG_ zd_ rfl rfl (vv_ rfl rfl (ve_ rfl (λh=>by cases h) (λ_=>vv_ rfl rfl (ve_ rfl (λ_=>?_) (λh=>by cases h)))));refine uG_ Al_ rfl rfl (vv_ rfl rfl (ve_ rfl (λ_=>vv_ rfl rfl (uG_ (wQ_ true) rfl rfl (VOK_fin ?_ ⟨1,1,rfl,by simp only [GX.nm,GX.fd];decide⟩))) (λh=>by cases h)));exact vb_ (.mk _ _ _ _ _ _ _ _ _ args) _)
 ·(
   refine uG_ yl_ rfl rfl (vv_ rfl rfl (ve_ rfl (λh=>by cases h) (λ_=>vv_ rfl rfl (ve_ rfl (λ_=>?_) (λh=>by cases h)))));refine uG_ Al_ rfl rfl (vv_ rfl rfl (ve_ rfl (λ_=>vv_ rfl rfl (uG_ (wQ_ true) rfl rfl (VOK_fin ?_ ⟨3,1,rfl,by simp only [GX.nm,GX.fd];decide⟩))) (λh=>by cases h)));exact vb_ (.mk _ _ _ _ _ _ _ _ _ args) _)
 ·(
   refine uG_ am_ rfl rfl (vv_ rfl rfl (ve_ rfl (λh=>by cases h) (λ_=>vv_ rfl rfl (ve_ rfl (λh=>by cases h) (λ_=>?_)))));refine uG_ zb_ rfl rfl (vv_ rfl rfl (ve_ rfl (λh=>by cases h) (λ_=>vv_ rfl rfl (vv_ rfl rfl (uG_ vX_ rfl rfl (vv_ rfl rfl (ve_ rfl (λh=>by cases h) (λ_=>VOK_fin ?_ ⟨12,1,rfl,by simp only [GX.nm,GX.fd];decide⟩))))))));exact vb_ (.mk _ _ _ _ _ _ _ _ _ args) _)
 ·(
   refine uG_ zc_ rfl rfl (vv_ rfl rfl (ve_ rfl (λh=>by cases h) (λ_=>vv_ rfl rfl (ve_ rfl (λ_=>?_) (λh=>by cases h)))));refine uG_ za_ rfl rfl (vv_ rfl rfl (ve_ rfl (λ_=>vv_ rfl rfl (uG_ (wQ_ true) rfl rfl (VOK_fin ?_ ⟨0,2,rfl,by simp only [GX.nm,GX.fd];decide⟩))) (λh=>by cases h)));exact vb_ (.mk _ _ _ _ _ _ _ _ _ args) _)
 ·(
   refine uG_ yn_ rfl rfl (vv_ rfl rfl (ve_ rfl (λh=>by cases h) (λ_=>vv_ rfl rfl (ve_ rfl (λ_=>?_) (λh=>by cases h)))));refine uG_ za_ rfl rfl (vv_ rfl rfl (ve_ rfl (λ_=>vv_ rfl rfl (uG_ (wQ_ true) rfl rfl (VOK_fin ?_ ⟨4,2,rfl,by simp only [GX.nm,GX.fd];decide⟩))) (λh=>by cases h)));exact vb_ (.mk _ _ _ _ _ _ _ _ _ args) _)
 ·(
   refine uG_ yk_ rfl rfl (vv_ rfl rfl (ve_ rfl (λh=>by cases h) (λ_=>vv_ rfl rfl (ve_ rfl (λ_=>?_) (λh=>by cases h)))));refine uG_ za_ rfl rfl (vv_ rfl rfl (ve_ rfl (λ_=>vv_ rfl rfl (uG_ (wQ_ true) rfl rfl (VOK_fin ?_ ⟨2,2,rfl,by simp only [GX.nm,GX.fd];decide⟩))) (λh=>by cases h)));exact vb_ (.mk _ _ _ _ _ _ _ _ _ args) _)
 ·(
   refine uG_ xZ_ rfl rfl (vv_ rfl rfl (ve_ rfl (λh=>by cases h) (λ_=>vv_ rfl rfl (ve_ rfl (λh=>by cases h) (λ_=>?_)))));refine uG_ Am_ rfl rfl (vv_ rfl rfl (ve_ rfl (λh=>by cases h) (λ_=>vv_ rfl rfl (vv_ rfl rfl (uG_ ws_ rfl rfl (vv_ rfl rfl (ve_ rfl (λh=>by cases h) (λ_=>VOK_fin ?_ ⟨17,2,rfl,by simp only [GX.nm,GX.fd];decide⟩))))))));exact vb_ (.mk _ _ _ _ _ _ _ _ _ args) _)
 ·(
   refine uG_ yo_ rfl rfl (vv_ rfl rfl (ve_ rfl (λh=>by cases h) (λ_=>vv_ rfl rfl (ve_ rfl (λ_=>?_) (λh=>by cases h)))));refine uG_ BQ_ rfl rfl (vv_ rfl rfl (ve_ rfl (λ_=>vv_ rfl rfl (uG_ (wQ_ true) rfl rfl (VOK_fin ?_ ⟨5,3,rfl,by simp only [GX.nm,GX.fd];decide⟩))) (λh=>by cases h)));exact vb_ (.mk _ _ _ _ _ _ _ _ _ args) _)
 ·(
   refine uG_ am_ rfl rfl (vv_ rfl rfl (ve_ rfl (λh=>by cases h) (λ_=>vv_ rfl rfl (ve_ rfl (λh=>by cases h) (λ_=>?_)))));refine uG_ zb_ rfl rfl (vv_ rfl rfl (ve_ rfl (λh=>by cases h) (λ_=>vv_ rfl rfl (vv_ rfl rfl (uG_ uN_ rfl rfl (vv_ rfl rfl (ve_ rfl (λh=>by cases h) (λ_=>VOK_fin ?_ ⟨13,4,rfl,by simp only [GX.nm,GX.fd];decide⟩))))))));exact vb_ (.mk _ _ _ _ _ _ _ _ _ args) _)
 ·(
   refine uG_ ym_ rfl rfl (vv_ rfl rfl (ve_ rfl (λh=>by cases h) (λ_=>vv_ rfl rfl (ve_ rfl (λ_=>?_) (λh=>by cases h)))));refine uG_ BR_ rfl rfl (vv_ rfl rfl (ve_ rfl (λ_=>vv_ rfl rfl (uG_ (wQ_ true) rfl rfl (VOK_fin ?_ ⟨7,4,rfl,by simp only [GX.nm,GX.fd];decide⟩))) (λh=>by cases h)));exact vb_ (.mk _ _ _ _ _ _ _ _ _ args) _)
 ·(
   refine uG_ yp_ rfl rfl (vv_ rfl rfl (ve_ rfl (λh=>by cases h) (λ_=>vv_ rfl rfl (ve_ rfl (λ_=>?_) (λh=>by cases h)))));refine uG_ BS_ rfl rfl (vv_ rfl rfl (ve_ rfl (λ_=>vv_ rfl rfl (uG_ (wQ_ true) rfl rfl (VOK_fin ?_ ⟨6,5,rfl,by simp only [GX.nm,GX.fd];decide⟩))) (λh=>by cases h)));exact vb_ (.mk _ _ _ _ _ _ _ _ _ args) _)
end Go.Proofs.YtjconanknjgpnaaGreat.vars
set_option linter.unusedVariables false
set_option linter.unusedSimpArgs false
namespace Go.Sx
section
variable {P:Program} {t:TypeId} {ti:TypeInfo} {α:Type} {enc:α->List AV} {w:Nat}
theorem wv_:∀(a xs b c:List AV),b.length=xs.length->dk_ a.length xs (a++(b++c))=some (a++(xs++c))
 |[],[],[],c,_=>by cases c<;>rfl
 |[],x::xs,y::b,c,h=>by have ih:=wv_ [] xs b c (by simpa using h);simp only [List.nil_append,List.length_nil,List.cons_append]at ih⊢;simp only [dk_,ih]
 |[],x::xs,[],c,h=>by simp at h
 |[],[],y::b,c,h=>by simp at h
 |x::a,xs,b,c,h=>by simp only [List.cons_append,List.length_cons,dk_,wv_ a xs b c h]
theorem xX_ (hw:∀a,(enc a).length=w) (l:List α) {i:Nat} (hi:i<l.length):∃a b,aR_ enc l=a++(enc l[i]++b)/\a.length=i*w/\∀x,aR_ enc (l.set i x)=a++(enc x++b):=by
 refine ⟨aR_ enc (l.take i),aR_ enc (l.drop (i+1)),?_,?_,λx=>?_⟩;have h1:l=l.take i++l[i]::l.drop (i+1):=(by rw [List.getElem_cons_drop,List.take_append_drop]);have h2:=congrArg (aR_ enc) h1;rw [cz_]at h2;exact h2
 .rw [aG_ hw,List.length_take];congr 1;omega
 rw [List.set_eq_take_append_cons_drop,if_pos hi,cz_];rfl
theorem run_stx (hw:∀a,(enc a).length=w) {l:List α} {i:Nat} (hi:i<l.length) {off:Nat} {v:AV} {xs p q r:List AV} {y:α} (hc:v.cells=xs) (ho:v=.agg xs\/(∃k n,v=.int k n)) (hinf:P.info? t=some ti) (hs:ti.size=xs.length) (h1:bb_ xs=true)
  (he:enc l[i]=p++(q++r)) (hp:p.length=off) (hq:q.length=xs.length) (hy:enc y=p++(xs++r)) (k:IntKind):(XOp.stx t w off).run P [a5_ enc w l,.int k (i:Int),v]=some (a5_ enc w (l.set i y)):=by
 obtain ⟨a,b,e1,e2,e3⟩:=xX_ hw l hi;obtain ⟨x0,l',rfl⟩:∃x l',l=x::l':=by cases l with|nil=>simp at hi|cons x l'=>exact ⟨x,l',rfl⟩
 have cS_:∃z l'',(x0::l').set i y=z::l''/\l''.length=l'.length:=by
  cases i with
  |zero=>exact ⟨y,l',rfl,rfl⟩
  |succ i=>exact ⟨x0,l'.set i y,rfl,by simp⟩
 obtain ⟨z,l'',e4,e5⟩:=cS_;have hst:cc_ P (rC_ (aR_ enc (x0::l'))) t (.ptr 0 (i*w+off)) v=some (.tup [],(rC_ (aR_ enc (x0::l'))).set 0 (.cells (aR_ enc ((x0::l').set i y)))):=by have hg:(rC_ (aR_ enc (x0::l'))).get 0=some (.cells (aR_ enc (x0::l'))):=rfl;have hsa:dk_ (i*w+off) xs (aR_ enc (x0::l'))=some (aR_ enc ((x0::l').set i y)):=(by have:=wv_ (a++p) xs q (r++b) hq;rw [List.length_append,e2,hp]at this;rw [e1,he,e3,hy];simpa [List.append_assoc]using this);have hb:Nat.beq xs.length ti.size=true:=(by rw [hs];exact Nat.beq_refl _);rcases ho with rfl|⟨k',n,rfl⟩;simp only [cc_,hinf];have hc':(AV.agg xs).cells=xs:=hc;simp only [hc',hb,h1,hg,hsa];simp only [cc_,hinf];simp only [hc,hb,h1,hg,hsa]
 show (match cc_ P (rC_ (aR_ enc (x0::l'))) t (.ptr 0 (Nat.add (Nat.mul i w) off)) v with
  |some r=>match r.2.get 0 with
   |some (.cells cs')=>some (AV.vsl (l'.length+1) w cs')
   |_=>none
  |none=>none)=_
 have e6:Nat.add (Nat.mul i w) off=i*w+off:=rfl;rw [e6,hst];have hg2:∀c:List AV,((rC_ (aR_ enc (x0::l'))).set 0 (.cells c)).get 0=some (.cells c):=λc=>rfl;simp only [hg2];rw [e4];show _=some (AV.vsl (l''.length+1) w (aR_ enc (z::l'')));rw [e5]
theorem wi_ {l:List α} {i:Nat} (hi:i<l.length) (k:IntKind):(XOp.inb).run P [a5_ enc w l,.int k (i:Int)]=some (.int .i64 (i:Int)):=by
 cases l with
 |nil=>simp at hi
 |cons x r=>
  show (match Sx.idx (i:Int) (r.length+1)with|some n=>some (AV.int .i64 (.ofNat n))|none=>none)=_;have hb:Nat.blt i (r.length+1)=true:=(by simpa [Nat.blt_eq]using hi);have:Sx.idx (i:Int) (r.length+1)=some i:=by show (match Nat.blt i (r.length+1)with|true=>some i|false=>none)=some i;rw [hb]
  rw [this];rfl
end
theorem wn_:∀{l:List AV},okL l=true->bb_ l=true
 |[],_=>rfl
 |a::r,h=>by rw [a1_]at h;obtain ⟨h1,h2⟩:=aa_ h;have:a.one=true:=(by cases a<;>first|rfl|(simp [okC]at h1));simp only [bb_,this,wn_ h2]
end Go.Sx
set_option maxRecDepth 100000
set_option linter.unusedVariables false
set_option linter.unusedSimpArgs false
namespace Go.Proofs.YtjconanknjgpnaaGreat.vars
open Go Go.Sx
def C7_:VC:=⟨⟨[],[]⟩,[(153,[(some 10),none,none]),(154,[(some 10)]),(157,[none]),(158,[none])],[(1,[⟨[(4,.ptr 1 0),(3,.ptr 0 0),(9,.slx 2 10 0),(10,.slx 1 0 0),(0,64)],[(1,[J 0,J 0,.str [],.str [],J 0,J 0,J 0,J 0,.flt .f64 0,.nsl]),(0,[65,66,67,68,69,70,71,72,73,74])],3,2,[⟨2,10,0,9,none⟩],[],[]⟩])],0,true,[(121,ft121),(155,y2_),(156,ft156)]⟩
def Cm_:VT:=Iq 65 1 75 (Dn [65,71,67,68,69,70,71,72,73,74,J 0])<|Iq 65 2 76 (Cf 155 y2_ [64,65,66,67,68,69,70,71,72,73,74] 77 11<|Dn [88,89,90,91,92,93,94,95,96,97,98])<|Iq 65 3 77 (.call 153 [64,67] 78 [(some 10),none,none]<|It Q3 [89] 90 (Dn [65,66,67,68,69,70,71,72,73,74,J 3])<|Iq 81 0 91 (Dn [65,66,67,68,69,70,71,72,73,74,J 4])<|.loop 92 0 [.nsl,J 0] (.cons 2 (Li Qe [74] 94<|It Q4 [93,94] 95 (Li Qa [74,93] 96<|.lt Qd [96] 97 (some 10)<|Cf 121 ft121 [64,97,98,99,100,101,102,103,104,105,106] 107 11<|It Q5 [128,J 0] 129 (Dn [65,66,67,68,69,70,71,72,73,74,128])<|Li Qj [92,.agg [118,119,120,121,122,123,124,125,126,127]] 130<|Li Q2 [93,J 1] 131<|.again 0 0 [130,131])<|Iq 65 3 96 (Cf 156 ft156 [64,65,66,67,68,69,70,71,72,73,74,92] 97 11<|Dn [109,110,111,112,113,114,115,116,117,118,119])<|Li Q1 [92,J 0] 97<|Li Qi [92,97] 98<|Iq 65 17 99 (Iq 98 1 100 (Dn [65,66,67,68,69,70,71,72,73,74,J 4])<|Iq 66 1 101 (Dn [65,66,67,68,69,70,71,72,73,74,J 4])<|Dn [65,66,67,68,69,70,71,72,73,92,J 0])<|Iq 65 15 100 (Li Q0 [98,J 1] 101<|.call 157 [101] 102 [none]<|Dn [65,J 1,67,68,69,70,71,72,73,92,102])<|Iq 65 16 101 (Li Q6 [98,J 1] 102<|.call 157 [102] 103 [none]<|Dn [65,98,67,68,69,70,71,72,73,92,103])<|It Z1 [65,J 4] 102 (It Qw [65,J 12] 103 (Li Q1 [92,J 0] 104<|.lt Zo [92,104] 105 (some 10)<|Li Q1 [92,J 1] 115<|Li Qi [92,115] 116<|.call 154 [.agg [105,106,107,108,109,110,111,112,113,114],116] 117 [(some 10)]<|Li Q1 [92,J 1] 127<|.lt Zo [92,127] 128 (some 10)<|Li Q1 [92,J 0] 138<|Li Qi [92,138] 139<|.call 154 [.agg [128,129,130,131,132,133,134,135,136,137],139] 140 [(some 10)]<|Li Q1 [92,J 0] 150<|Li Zp [92,150,.agg [117,118,119,120,121,122,123,124,125,126]] 151<|Li Q1 [92,J 1] 152<|Li Zp [151,152,.agg [140,141,142,143,144,145,146,147,148,149]] 153<|Li Q1 [92,J 0] 154<|Li Qi [153,154] 155<|Li Q1 [92,J 1] 156<|Li Qi [153,156] 157<|Li Qk [155,157] 158<|Iq 65 4 159 (.ite 158 (Li Q6 [155,J 1] 160<|.call 157 [160] 161 [none]<|.chk (.same 92 153)<|Dn [65,155,67,68,69,70,71,72,73,153,161])<|.call 157 [.bool false] 160 [none]<|.chk (.same 92 153)<|Dn [65,155,67,68,69,70,71,72,73,153,160])<|Iq 65 5 160 (.ite 158 (Li Q6 [155,J 1] 161<|.call 157 [161] 162 [none]<|.chk (.same 92 153)<|Dn [65,155,67,68,69,70,71,72,73,153,162])<|.call 157 [.bool false] 161 [none]<|.chk (.same 92 153)<|Dn [65,155,67,68,69,70,71,72,73,153,161])<|Iq 65 6 161 (.ite 158 (Li Q6 [155,J 1] 162<|.call 157 [162] 163 [none]<|.chk (.same 92 153)<|Dn [65,155,67,68,69,70,71,72,73,153,163])<|.call 157 [.bool false] 162 [none]<|.chk (.same 92 153)<|Dn [65,155,67,68,69,70,71,72,73,153,162])<|Iq 65 7 162 (.ite 158 (Li Q6 [155,J 1] 163<|.call 157 [163] 164 [none]<|.chk (.same 92 153)<|Dn [65,155,67,68,69,70,71,72,73,153,164])<|.call 157 [.bool false] 163 [none]<|.chk (.same 92 153)<|Dn [65,155,67,68,69,70,71,72,73,153,163])<|Iq 65 8 163 (.ite 158 (.call 158 [155] 164 [none]<|.call 157 [164] 165 [none]<|.chk (.same 92 153)<|Dn [65,155,67,68,69,70,71,72,73,153,165])<|.call 157 [.bool false] 164 [none]<|.chk (.same 92 153)<|Dn [65,155,67,68,69,70,71,72,73,153,164])<|Iq 65 9 164 (.call 157 [158] 165 [none]<|.chk (.same 92 153)<|Dn [65,J 1,67,68,69,70,71,72,73,153,165])<|Iq 65 10 165 (.call 157 [158] 166 [none]<|.chk (.same 92 153)<|Dn [65,J 1,67,68,69,70,71,72,73,153,166])<|Iq 65 11 166 (.ite 158 (Li Q6 [155,J 1] 167<|.call 157 [167] 168 [none]<|.chk (.same 92 153)<|Dn [65,J 1,67,68,69,70,71,72,73,153,168])<|.call 157 [.bool false] 167 [none]<|.chk (.same 92 153)<|Dn [65,J 1,67,68,69,70,71,72,73,153,167])<|Iq 65 12 167 (.ite 158 (Li Q6 [155,J 1] 168<|.call 157 [168] 169 [none]<|.chk (.same 92 153)<|Dn [65,J 1,67,68,69,70,71,72,73,153,169])<|.call 157 [.bool false] 168 [none]<|.chk (.same 92 153)<|Dn [65,J 1,67,68,69,70,71,72,73,153,168])<|.ite 158 (Li Q0 [155,J 1] 168<|.call 157 [168] 169 [none]<|.chk (.same 92 153)<|Dn [65,J 1,67,68,69,70,71,72,73,153,169])<|.call 157 [.bool false] 168 [none]<|.chk (.same 92 153)<|Dn [65,J 1,67,68,69,70,71,72,73,153,168])<|Li Q1 [92,J 1] 104<|Li Qi [92,104] 105<|Li Qk [98,105] 106<|Iq 65 4 107 (.ite 106 (Li Q6 [98,J 1] 108<|.call 157 [108] 109 [none]<|Dn [65,98,67,68,69,70,71,72,73,92,109])<|.call 157 [.bool false] 108 [none]<|Dn [65,98,67,68,69,70,71,72,73,92,108])<|Iq 65 5 108 (.ite 106 (Li Q6 [98,J 1] 109<|.call 157 [109] 110 [none]<|Dn [65,98,67,68,69,70,71,72,73,92,110])<|.call 157 [.bool false] 109 [none]<|Dn [65,98,67,68,69,70,71,72,73,92,109])<|Iq 65 6 109 (.ite 106 (Li Q6 [98,J 1] 110<|.call 157 [110] 111 [none]<|Dn [65,98,67,68,69,70,71,72,73,92,111])<|.call 157 [.bool false] 110 [none]<|Dn [65,98,67,68,69,70,71,72,73,92,110])<|Iq 65 7 110 (.ite 106 (Li Q6 [98,J 1] 111<|.call 157 [111] 112 [none]<|Dn [65,98,67,68,69,70,71,72,73,92,112])<|.call 157 [.bool false] 111 [none]<|Dn [65,98,67,68,69,70,71,72,73,92,111])<|Iq 65 8 111 (.ite 106 (.call 158 [98] 112 [none]<|.call 157 [112] 113 [none]<|Dn [65,98,67,68,69,70,71,72,73,92,113])<|.call 157 [.bool false] 112 [none]<|Dn [65,98,67,68,69,70,71,72,73,92,112])<|Iq 65 9 112 (.call 157 [106] 113 [none]<|Dn [65,J 1,67,68,69,70,71,72,73,92,113])<|Iq 65 10 113 (.call 157 [106] 114 [none]<|Dn [65,J 1,67,68,69,70,71,72,73,92,114])<|Iq 65 11 114 (.ite 106 (Li Q6 [98,J 1] 115<|.call 157 [115] 116 [none]<|Dn [65,J 1,67,68,69,70,71,72,73,92,116])<|.call 157 [.bool false] 115 [none]<|Dn [65,J 1,67,68,69,70,71,72,73,92,115])<|Iq 65 12 115 (.ite 106 (Li Q6 [98,J 1] 116<|.call 157 [116] 117 [none]<|Dn [65,J 1,67,68,69,70,71,72,73,92,117])<|.call 157 [.bool false] 116 [none]<|Dn [65,J 1,67,68,69,70,71,72,73,92,116])<|.ite 106 (Li Q0 [98,J 1] 116<|.call 157 [116] 117 [none]<|Dn [65,J 1,67,68,69,70,71,72,73,92,117])<|.call 157 [.bool false] 116 [none]<|Dn [65,J 1,67,68,69,70,71,72,73,92,116])<|Li Q1 [92,J 1] 103<|Li Qi [92,103] 104<|Li Qk [98,104] 105<|Iq 65 4 106 (.ite 105 (Li Q6 [98,J 1] 107<|.call 157 [107] 108 [none]<|Dn [65,98,67,68,69,70,71,72,73,92,108])<|.call 157 [.bool false] 107 [none]<|Dn [65,98,67,68,69,70,71,72,73,92,107])<|Iq 65 5 107 (.ite 105 (Li Q6 [98,J 1] 108<|.call 157 [108] 109 [none]<|Dn [65,98,67,68,69,70,71,72,73,92,109])<|.call 157 [.bool false] 108 [none]<|Dn [65,98,67,68,69,70,71,72,73,92,108])<|Iq 65 6 108 (.ite 105 (Li Q6 [98,J 1] 109<|.call 157 [109] 110 [none]<|Dn [65,98,67,68,69,70,71,72,73,92,110])<|.call 157 [.bool false] 109 [none]<|Dn [65,98,67,68,69,70,71,72,73,92,109])<|Iq 65 7 109 (.ite 105 (Li Q6 [98,J 1] 110<|.call 157 [110] 111 [none]<|Dn [65,98,67,68,69,70,71,72,73,92,111])<|.call 157 [.bool false] 110 [none]<|Dn [65,98,67,68,69,70,71,72,73,92,110])<|Iq 65 8 110 (.ite 105 (.call 158 [98] 111 [none]<|.call 157 [111] 112 [none]<|Dn [65,98,67,68,69,70,71,72,73,92,112])<|.call 157 [.bool false] 111 [none]<|Dn [65,98,67,68,69,70,71,72,73,92,111])<|Iq 65 9 111 (.call 157 [105] 112 [none]<|Dn [65,J 1,67,68,69,70,71,72,73,92,112])<|Iq 65 10 112 (.call 157 [105] 113 [none]<|Dn [65,J 1,67,68,69,70,71,72,73,92,113])<|Iq 65 11 113 (.ite 105 (Li Q6 [98,J 1] 114<|.call 157 [114] 115 [none]<|Dn [65,J 1,67,68,69,70,71,72,73,92,115])<|.call 157 [.bool false] 114 [none]<|Dn [65,J 1,67,68,69,70,71,72,73,92,114])<|Iq 65 12 114 (.ite 105 (Li Q6 [98,J 1] 115<|.call 157 [115] 116 [none]<|Dn [65,J 1,67,68,69,70,71,72,73,92,116])<|.call 157 [.bool false] 115 [none]<|Dn [65,J 1,67,68,69,70,71,72,73,92,115])<|.ite 105 (Li Q0 [98,J 1] 115<|.call 157 [115] 116 [none]<|Dn [65,J 1,67,68,69,70,71,72,73,92,116])<|.call 157 [.bool false] 115 [none]<|Dn [65,J 1,67,68,69,70,71,72,73,92,115]) .nil))<|.loop 78 0 [.nsl,J 0] (.cons 2 (Li Qe [74] 80<|It Q4 [79,80] 81 (Li Qa [74,79] 82<|.lt Qd [82] 83 (some 10)<|Cf 121 ft121 [64,83,84,85,86,87,88,89,90,91,92] 93 11<|It Q5 [114,J 0] 115 (Dn [65,66,67,68,69,70,71,72,73,74,114])<|Li Qj [78,.agg [104,105,106,107,108,109,110,111,112,113]] 116<|Li Q2 [79,J 1] 117<|.again 0 0 [116,117])<|Iq 65 3 82 (Cf 156 ft156 [64,65,66,67,68,69,70,71,72,73,74,78] 83 11<|Dn [95,96,97,98,99,100,101,102,103,104,105])<|Li Q1 [78,J 0] 83<|Li Qi [78,83] 84<|Iq 65 17 85 (Iq 84 1 86 (Dn [65,66,67,68,69,70,71,72,73,74,J 4])<|Iq 66 1 87 (Dn [65,66,67,68,69,70,71,72,73,74,J 4])<|Dn [65,66,67,68,69,70,71,72,73,78,J 0])<|Iq 65 15 86 (Li Q0 [84,J 1] 87<|.call 157 [87] 88 [none]<|Dn [65,J 1,67,68,69,70,71,72,73,78,88])<|Iq 65 16 87 (Li Q6 [84,J 1] 88<|.call 157 [88] 89 [none]<|Dn [65,84,67,68,69,70,71,72,73,78,89])<|It Z1 [65,J 4] 88 (It Qw [65,J 12] 89 (Li Q1 [78,J 0] 90<|.lt Zo [78,90] 91 (some 10)<|Li Q1 [78,J 1] 101<|Li Qi [78,101] 102<|.call 154 [.agg [91,92,93,94,95,96,97,98,99,100],102] 103 [(some 10)]<|Li Q1 [78,J 1] 113<|.lt Zo [78,113] 114 (some 10)<|Li Q1 [78,J 0] 124<|Li Qi [78,124] 125<|.call 154 [.agg [114,115,116,117,118,119,120,121,122,123],125] 126 [(some 10)]<|Li Q1 [78,J 0] 136<|Li Zp [78,136,.agg [103,104,105,106,107,108,109,110,111,112]] 137<|Li Q1 [78,J 1] 138<|Li Zp [137,138,.agg [126,127,128,129,130,131,132,133,134,135]] 139<|Li Q1 [78,J 0] 140<|Li Qi [139,140] 141<|Li Q1 [78,J 1] 142<|Li Qi [139,142] 143<|Li Qk [141,143] 144<|Iq 65 4 145 (.ite 144 (Li Q6 [141,J 1] 146<|.call 157 [146] 147 [none]<|.chk (.same 78 139)<|Dn [65,141,67,68,69,70,71,72,73,139,147])<|.call 157 [.bool false] 146 [none]<|.chk (.same 78 139)<|Dn [65,141,67,68,69,70,71,72,73,139,146])<|Iq 65 5 146 (.ite 144 (Li Q6 [141,J 1] 147<|.call 157 [147] 148 [none]<|.chk (.same 78 139)<|Dn [65,141,67,68,69,70,71,72,73,139,148])<|.call 157 [.bool false] 147 [none]<|.chk (.same 78 139)<|Dn [65,141,67,68,69,70,71,72,73,139,147])<|Iq 65 6 147 (.ite 144 (Li Q6 [141,J 1] 148<|.call 157 [148] 149 [none]<|.chk (.same 78 139)<|Dn [65,141,67,68,69,70,71,72,73,139,149])<|.call 157 [.bool false] 148 [none]<|.chk (.same 78 139)<|Dn [65,141,67,68,69,70,71,72,73,139,148])<|Iq 65 7 148 (.ite 144 (Li Q6 [141,J 1] 149<|.call 157 [149] 150 [none]<|.chk (.same 78 139)<|Dn [65,141,67,68,69,70,71,72,73,139,150])<|.call 157 [.bool false] 149 [none]<|.chk (.same 78 139)<|Dn [65,141,67,68,69,70,71,72,73,139,149])<|Iq 65 8 149 (.ite 144 (.call 158 [141] 150 [none]<|.call 157 [150] 151 [none]<|.chk (.same 78 139)<|Dn [65,141,67,68,69,70,71,72,73,139,151])<|.call 157 [.bool false] 150 [none]<|.chk (.same 78 139)<|Dn [65,141,67,68,69,70,71,72,73,139,150])<|Iq 65 9 150 (.call 157 [144] 151 [none]<|.chk (.same 78 139)<|Dn [65,J 1,67,68,69,70,71,72,73,139,151])<|Iq 65 10 151 (.call 157 [144] 152 [none]<|.chk (.same 78 139)<|Dn [65,J 1,67,68,69,70,71,72,73,139,152])<|Iq 65 11 152 (.ite 144 (Li Q6 [141,J 1] 153<|.call 157 [153] 154 [none]<|.chk (.same 78 139)<|Dn [65,J 1,67,68,69,70,71,72,73,139,154])<|.call 157 [.bool false] 153 [none]<|.chk (.same 78 139)<|Dn [65,J 1,67,68,69,70,71,72,73,139,153])<|Iq 65 12 153 (.ite 144 (Li Q6 [141,J 1] 154<|.call 157 [154] 155 [none]<|.chk (.same 78 139)<|Dn [65,J 1,67,68,69,70,71,72,73,139,155])<|.call 157 [.bool false] 154 [none]<|.chk (.same 78 139)<|Dn [65,J 1,67,68,69,70,71,72,73,139,154])<|.ite 144 (Li Q0 [141,J 1] 154<|.call 157 [154] 155 [none]<|.chk (.same 78 139)<|Dn [65,J 1,67,68,69,70,71,72,73,139,155])<|.call 157 [.bool false] 154 [none]<|.chk (.same 78 139)<|Dn [65,J 1,67,68,69,70,71,72,73,139,154])<|Li Q1 [78,J 1] 90<|Li Qi [78,90] 91<|Li Qk [84,91] 92<|Iq 65 4 93 (.ite 92 (Li Q6 [84,J 1] 94<|.call 157 [94] 95 [none]<|Dn [65,84,67,68,69,70,71,72,73,78,95])<|.call 157 [.bool false] 94 [none]<|Dn [65,84,67,68,69,70,71,72,73,78,94])<|Iq 65 5 94 (.ite 92 (Li Q6 [84,J 1] 95<|.call 157 [95] 96 [none]<|Dn [65,84,67,68,69,70,71,72,73,78,96])<|.call 157 [.bool false] 95 [none]<|Dn [65,84,67,68,69,70,71,72,73,78,95])<|Iq 65 6 95 (.ite 92 (Li Q6 [84,J 1] 96<|.call 157 [96] 97 [none]<|Dn [65,84,67,68,69,70,71,72,73,78,97])<|.call 157 [.bool false] 96 [none]<|Dn [65,84,67,68,69,70,71,72,73,78,96])<|Iq 65 7 96 (.ite 92 (Li Q6 [84,J 1] 97<|.call 157 [97] 98 [none]<|Dn [65,84,67,68,69,70,71,72,73,78,98])<|.call 157 [.bool false] 97 [none]<|Dn [65,84,67,68,69,70,71,72,73,78,97])<|Iq 65 8 97 (.ite 92 (.call 158 [84] 98 [none]<|.call 157 [98] 99 [none]<|Dn [65,84,67,68,69,70,71,72,73,78,99])<|.call 157 [.bool false] 98 [none]<|Dn [65,84,67,68,69,70,71,72,73,78,98])<|Iq 65 9 98 (.call 157 [92] 99 [none]<|Dn [65,J 1,67,68,69,70,71,72,73,78,99])<|Iq 65 10 99 (.call 157 [92] 100 [none]<|Dn [65,J 1,67,68,69,70,71,72,73,78,100])<|Iq 65 11 100 (.ite 92 (Li Q6 [84,J 1] 101<|.call 157 [101] 102 [none]<|Dn [65,J 1,67,68,69,70,71,72,73,78,102])<|.call 157 [.bool false] 101 [none]<|Dn [65,J 1,67,68,69,70,71,72,73,78,101])<|Iq 65 12 101 (.ite 92 (Li Q6 [84,J 1] 102<|.call 157 [102] 103 [none]<|Dn [65,J 1,67,68,69,70,71,72,73,78,103])<|.call 157 [.bool false] 102 [none]<|Dn [65,J 1,67,68,69,70,71,72,73,78,102])<|.ite 92 (Li Q0 [84,J 1] 102<|.call 157 [102] 103 [none]<|Dn [65,J 1,67,68,69,70,71,72,73,78,103])<|.call 157 [.bool false] 102 [none]<|Dn [65,J 1,67,68,69,70,71,72,73,78,102])<|Li Q1 [78,J 1] 89<|Li Qi [78,89] 90<|Li Qk [84,90] 91<|Iq 65 4 92 (.ite 91 (Li Q6 [84,J 1] 93<|.call 157 [93] 94 [none]<|Dn [65,84,67,68,69,70,71,72,73,78,94])<|.call 157 [.bool false] 93 [none]<|Dn [65,84,67,68,69,70,71,72,73,78,93])<|Iq 65 5 93 (.ite 91 (Li Q6 [84,J 1] 94<|.call 157 [94] 95 [none]<|Dn [65,84,67,68,69,70,71,72,73,78,95])<|.call 157 [.bool false] 94 [none]<|Dn [65,84,67,68,69,70,71,72,73,78,94])<|Iq 65 6 94 (.ite 91 (Li Q6 [84,J 1] 95<|.call 157 [95] 96 [none]<|Dn [65,84,67,68,69,70,71,72,73,78,96])<|.call 157 [.bool false] 95 [none]<|Dn [65,84,67,68,69,70,71,72,73,78,95])<|Iq 65 7 95 (.ite 91 (Li Q6 [84,J 1] 96<|.call 157 [96] 97 [none]<|Dn [65,84,67,68,69,70,71,72,73,78,97])<|.call 157 [.bool false] 96 [none]<|Dn [65,84,67,68,69,70,71,72,73,78,96])<|Iq 65 8 96 (.ite 91 (.call 158 [84] 97 [none]<|.call 157 [97] 98 [none]<|Dn [65,84,67,68,69,70,71,72,73,78,98])<|.call 157 [.bool false] 97 [none]<|Dn [65,84,67,68,69,70,71,72,73,78,97])<|Iq 65 9 97 (.call 157 [91] 98 [none]<|Dn [65,J 1,67,68,69,70,71,72,73,78,98])<|Iq 65 10 98 (.call 157 [91] 99 [none]<|Dn [65,J 1,67,68,69,70,71,72,73,78,99])<|Iq 65 11 99 (.ite 91 (Li Q6 [84,J 1] 100<|.call 157 [100] 101 [none]<|Dn [65,J 1,67,68,69,70,71,72,73,78,101])<|.call 157 [.bool false] 100 [none]<|Dn [65,J 1,67,68,69,70,71,72,73,78,100])<|Iq 65 12 100 (.ite 91 (Li Q6 [84,J 1] 101<|.call 157 [101] 102 [none]<|Dn [65,J 1,67,68,69,70,71,72,73,78,102])<|.call 157 [.bool false] 101 [none]<|Dn [65,J 1,67,68,69,70,71,72,73,78,101])<|.ite 91 (Li Q0 [84,J 1] 101<|.call 157 [101] 102 [none]<|Dn [65,J 1,67,68,69,70,71,72,73,78,102])<|.call 157 [.bool false] 101 [none]<|Dn [65,J 1,67,68,69,70,71,72,73,78,101]) .nil)
theorem zo_ (k:Int):kH_ Tryz.prog 158 [.int .i64 k] (.bool (decide (k=2\/k=3\/k=4))):=by
 refine t6_ (sh:=[none]) (ls:=[.int .i64 k]) (c:=Dg_) (n:=300) (t:=Cw_) mo ov rfl rfl rfl (λY _=>vC_ _) rfl (by kernel_rfl) λY hf hg=>?_;unfold Cw_
 (refine a_ rfl rfl ?_ ?_<;>intro h<;>simp only [nc]at h<;>try omega)
 .refine uH_ ?_;show AV.bool _=_
  congr 1;symm;simp only [decide_eq_true_eq];omega
 (refine a_ rfl rfl ?_ ?_<;>intro h<;>simp only [nc]at h<;>try omega)
 .refine uH_ ?_;show AV.bool _=_
  congr 1;symm;simp only [decide_eq_true_eq];omega
 refine vv_ (run_eql ..) rfl (uH_ ?_);show AV.bool _=_
 congr 1
 refine decide_eq_decide.2 ?_;omega
theorem zK_ {b:Bool} (h:(if b=true then (0:Int)else 4)=0):b=true:=by
 cases b with
 |true=>rfl
 |false=>simp at h
section
variable {P:Program} {Q:AV->Prop} {L:List (Nat->List AV->Prop)} {Y:Sy} {i:Nat} {A B:VT}
theorem w5_ {p:Prop} [Decidable p] (h0:Y.v i=some (.bool (decide p))) (h1:p->VOK P Q L Y A) (h2:¬p->VOK P Q L Y B):VOK P Q L Y (.ite i A B):=
 ve_ h0 (λh=>h1 (of_decide_eq_true h)) (λh=>h2 (of_decide_eq_false h))
end
def RE (d:Nat) (x:GX):Nat->List AV->Prop:=λ_ ws=>∃(y:GX) (e:Int),ws=m_ y++[.int .i64 e]/\(e=0->TX d y/\y.op=x.op/\NT x y)
theorem vO_ {d j:Nat} {x y:GX} {e:Int} {hv:List AV} {Y:Sy} {L:List (Nat->List AV->Prop)} (h:ab_ Y.v hv=m_ y++[.int .i64 e]) (hw:e=0->TX d y/\y.op=x.op/\NT x y):VOK Tryz.prog (QF (RE d x)) L Y (.done (.tup (.int .i64 (.ofNat j)::hv))):=
 VOK_fin (by rw [h];exact vb_ y e) ⟨y,e,h,hw⟩
def RM (x:GX) (k:Int):Nat->List AV->Prop:=λ_ ws=>∃e:Int,ws=(match x with| .mk op _ nm fd _ _ vk vi vf args=>m_ (.mk op 2 nm fd 8 4 vk vi vf args))++[.int .i64 e]/\(e=0->k=2\/k=3)
theorem DP_ (op kd:Int) (nm fd:List UInt8) (ad n vk vi:Int) (vf:Nat) (args:List GX) (y:GX) (h:nm=[107]):CF Tryz.prog 156 ft156 (VARS::(m_ (.mk op kd nm fd ad n vk vi vf args)++[T_ [y]])) (RM (.mk op kd nm fd ad n vk vi vf [y]) y.kd):=by
 subst h;obtain ⟨yo,yk,ynm,yfd,yad,yn,yvk,yvi,yvf,ya⟩:=y;refine vh_ (c:=De_) (n:=300) (t:=Cu_) mo ov rfl (λY _=>vC_ _) (by kernel_rfl) λY hf hg=>?_;unfold Cu_;refine uG_ xp_ rfl rfl (vv_ rfl rfl (ve_ rfl (λh=>by cases h) (λ_=>vv_ rfl rfl (ve_ rfl (λ_=>?_) (λh=>by cases h)))));refine vv_ (r:=.vptr (m_ (.mk yo yk ynm yfd yad yn yvk yvi yvf ya)++uW_ [])) rfl (by show okL _=true;exact kS_.okL_join (okX _) (xH_ _)) ?_;refine vv_ (r:=.vptr [.int .i64 yk,.str ynm,.str yfd,.int .i64 yad,.int .i64 yn,.int .i64 yvk,.int .i64 yvi,.flt .f64 yvf,T_ ya]) rfl (by simp only [okC,okL,okA]) (vv_ (r:=.int .i64 yk) rfl rfl ?_)
 (refine a_ rfl rfl ?_ ?_<;>intro h<;>simp only [nc]at h<;>try omega)
 refine uG_ (wQ_ true) rfl rfl (VOK_fin (by show okL (m_ (.mk op 2 [107] fd 8 4 vk vi vf [_])++[_])=true;exact vb_ _ _) ⟨_,rfl,λ_=>.inl h⟩);refine vv_ (r:=.vptr (m_ (.mk yo yk ynm yfd yad yn yvk yvi yvf ya)++uW_ [])) rfl (by show okL _=true;exact kS_.okL_join (okX _) (xH_ _)) ?_;refine vv_ (r:=.vptr [.int .i64 yk,.str ynm,.str yfd,.int .i64 yad,.int .i64 yn,.int .i64 yvk,.int .i64 yvi,.flt .f64 yvf,T_ ya]) rfl (by simp only [okC,okL,okA]) (vv_ (r:=.int .i64 yk) rfl rfl ?_);refine vv_ (run_eql ..) rfl (uG_ (wQ_ _) rfl rfl (VOK_fin (by show okL (m_ (.mk op 2 [107] fd 8 4 vk vi vf [_])++[_])=true;exact vb_ _ _) ⟨_,rfl,λh=>.inr ?_⟩));exact of_decide_eq_true (zK_ h)
theorem t_ (l:List GX):(XOp.len 47).run Tryz.prog [T_ l]=some (.int .i64 (l.length:Int)):=by rw [vt_];exact uc_ Tryz.underlying47 l
theorem b8_ (l:List GX) {i:Nat} (h:i<l.length):(XOp.iaddr 47).run Tryz.prog [T_ l,.int .i64 (i:Int)]=some (.vptr (aR_ m_ (l.drop i))):=by rw [vt_];exact run_iaddr_sl (e:=49) (ti:=(Tryz.prog.info? 49).get!) Tryz.underlying47 (by kernel_rfl) (by kernel_rfl) nQ_ h .i64
theorem es_ (l:List GX) {i:Nat} (h:i<l.length):(XOp.load 49).run Tryz.prog [.vptr (aR_ m_ (l.drop i))]=some (.agg (m_ l[i])):=
 run_load_agg (ti:=(Tryz.prog.info? 49).get!) Tryz.underlying49 rfl (by kernel_rfl) (by kernel_rfl) nQ_ h
theorem N_ (l:List GX) (s:GX) (hl:l.length<=100000):(XOp.app 10 112).run Tryz.prog [T_ l,.agg (m_ s)]=some (T_ (l++[s])):=by rw [vt_,vt_];exact t9_ nQ_ (by decide) (by decide) l s (by omega)
theorem xf_ (l:List GX) {i:Nat} (hi:i<l.length) (y:GX) (k:IntKind):(XOp.stx 49 10 0).run Tryz.prog [T_ l,.int k (i:Int),.agg (m_ y)]=some (T_ (l.set i y)):=by rw [vt_,vt_];exact run_stx (ti:=(Tryz.prog.info? 49).get!) nQ_ hi (p:=[]) (q:=m_ l[i]) (r:=[]) (xs:=m_ y) rfl (.inl rfl) (by kernel_rfl) (by rw [nQ_];kernel_rfl) (wn_ (okX _)) (by simp) rfl (by rw [nQ_,nQ_]) (by simp) k
theorem yJ_ (x:GX):okL (m_ x++[])=true:=by rw [List.append_nil];exact okX x
def typ (b:Bool):Int:=if b=true then 0 else 4
theorem zJ_ {b:Bool} (h:typ b=0):b=true:=zK_ h
theorem zp_ (b:Bool):kH_ Tryz.prog 157 [.bool b] (.int .i64 (typ b)):=wQ_ b
attribute [irreducible] typ
theorem TX1 {d:Nat} {op kd ad n vk vi:Int} {nm fd:List UInt8} {vf:Nat} {y:GX} (hf:yV_ vf) (hy:TX d y) (ho:op=15/\kd=1/\y.kd=1\/op=16/\kd=y.kd/\y.kd≠1\/op=17/\2<=kd/\kd<=5/\y.kd≠1):TX (d+1) (.mk op kd nm fd ad n vk vi vf [y]):=by have hk:=Ai_ hy;refine ⟨.inr (.inl ⟨by omega,rfl⟩),hf,by omega,by omega,⟨λh=>by omega,λh=>by omega,λh=>by omega,λh=>by omega,λh=>?_,λh=>?_,λh=>?_⟩,λa ha=>by cases List.mem_singleton.1 ha;exact hy⟩;exact ⟨by omega,by show [y.kd]=[1];congr 1;omega⟩;exact ⟨by show [y.kd]=[kd];congr 1;omega,by omega,by omega⟩;exact ⟨by omega,by omega,y.kd,rfl,by omega,by omega⟩
theorem TX2 {d:Nat} {op kd ad n vk vi:Int} {nm fd:List UInt8} {vf:Nat} {y z:GX} (hf:yV_ vf) (hy:TX d y) (hz:TX d z) (ho:4<=op/\op<=14) (hk:y.kd=z.kd) (h1:op<=8->kd=y.kd/\y.kd≠1) (h2:9<=op->kd=1) (h3:op=8->y.kd≠5) (h4:op=11\/op=12->y.kd≠1) (h5:13<=op->y.kd=1):TX (d+1) (.mk op kd nm fd ad n vk vi vf [y,z]):=by
 have hy1:=Ai_ hy
 refine ⟨.inr (.inr ⟨ho,rfl⟩),hf,by omega,by omega,⟨λh=>by omega,λh=>by omega,λh=>by omega,λh=>?_,λh=>by omega,λh=>by omega,λh=>by omega⟩,λa ha=>by
  rcases List.mem_cons.1 ha with rfl|ha;exact hy
  .cases List.mem_singleton.1 ha;exact hz⟩
 exact ⟨y.kd,by show [y.kd,z.kd]=_;rw [←hk],hy1.1,hy1.2,h1,h2,h3,h4,h5⟩
theorem x4_:∀(d:Nat) (x:GX),WX d x->CF Tryz.prog 121 ft121 (VARS::m_ x) (RE d x)
 |0,_,h=>h.elim
 |d+1,.mk op kd nm fd ad n vk vi vf args,hx=>by
  obtain ⟨hA,hF,⟨n1,n2,n3,n4⟩,hW⟩:=hx;have ih:=λ(z:GX) (hz:z∈args)=>x4_ d z (hW z hz);have hal:args.length<=2:=(by unfold Ari at hA;omega);refine vh_ (c:=C7_) (n:=300) (t:=Cm_) mo ov rfl (λY _=>vC_ _) (by kernel_rfl) λY hf hg=>?_;unfold Cm_
  (refine a_ rfl rfl ?_ ?_<;>intro h<;>simp only [nc]at h<;>try omega)
  .subst h;have hl:args=[]:=(by unfold Ari at hA;exact List.length_eq_zero_iff.1 (by omega));subst hl;refine vO_ (y:=.mk 1 vk nm fd ad n vk vi vf []) rfl (λ_=>⟨⟨hA,hF,?_,?_,?_,λa ha=>(List.not_mem_nil ha).elim⟩,rfl,λh=>by omega⟩);all_goals obtain ⟨m1,m2,m3,m4,m5,m6⟩:=n1 rfl
   omega;omega;exact ⟨λ_=>⟨rfl,by omega,by omega,m2,m3,m4,m5,m6⟩,λh=>by omega,λh=>by omega,λh=>by omega,λh=>by omega,λh=>by omega,λh=>by omega⟩
  (refine a_ rfl rfl ?_ ?_<;>intro h<;>simp only [nc]at h<;>try omega)
  subst h;have hl:args=[]:=(by unfold Ari at hA;exact List.length_eq_zero_iff.1 (by omega));subst hl;refine b_ (DO_ 2 kd nm fd ad n vk vi vf [] (n2 rfl)) rfl (by show okL (VARS::m_ (.mk 2 kd nm fd ad n vk vi vf []))=true;rw [a1_];exact okX _) ⟨?_,trivial⟩;rintro ws ⟨ad1,kd1,rfl,hc⟩;have hc':(ad1,kd1)∈u6_:=tie_cells _ hc;refine vO_ (y:=.mk 2 kd1 nm fd ad1 n vk vi vf []) rfl (λ_=>⟨⟨hA,hF,?_,?_,⟨λh=>by omega,λ_=>hc',λh=>by omega,λh=>by omega,λh=>by omega,λh=>by omega,λh=>by omega⟩,λa ha=>(List.not_mem_nil ha).elim⟩,rfl,λ_=>hc⟩);simp [u6_]at hc';omega;simp [u6_]at hc';omega
  (refine a_ rfl rfl ?_ ?_<;>intro h<;>simp only [nc]at h<;>try omega)
  .subst h;cases n3 rfl;refine uG_ xp_ rfl rfl (vv_ rfl rfl (ve_ rfl (λh=>by cases h) (λ_=>vv_ rfl rfl (ve_ rfl (λh=>by cases h) (λ_=>?_)))));refine uI_ (ι:=List GX×Nat) (λs=>[T_ s.1,.int .i64 (s.2:Int)]) (λs=>s.1.length=s.2/\s.2<=args.length/\∀a∈s.1,TX d a) (λs=>args.length-s.2) ([],0) ⟨rfl,Nat.zero_le _,λa ha=>(List.not_mem_nil ha).elim⟩ rfl (λs _=>by simp only [okL,okC,okA]) (λs s' _ _ h=>by simp at h;omega) (λs hs=>?_);obtain ⟨acc,i⟩:=s;obtain ⟨h1,h2,h3⟩:=hs;simp only at h1 h2 h3⊢;refine vv_ (t_ args) rfl ?_
   (refine a_ rfl rfl ?_ ?_<;>intro h<;>simp only [nc]at h<;>try omega)
   .have hi:i<args.length:=(by omega);have hld:=es_ args hi;have hz:=ih args[i] (List.getElem_mem hi);rcases hzz:args[i]with ⟨zo,zk,znm,zfd,zad,zn,zvk,zvi,zvf,za⟩;rw [hzz]at hld hz;refine vv_ (b8_ args hi) (kS_ okX _) (vf_ hld rfl (okX _) ?_);refine b_ hz rfl (by show okL (VARS::m_ (.mk zo zk znm zfd zad zn zvk zvi zvf za))=true;rw [a1_];exact okX _) ⟨?_,trivial⟩;rintro ws ⟨⟨yo,yk,ynm,yfd,yad,yn,yvk,yvi,yvf,ya⟩,e,rfl,hy⟩
    (refine a_ rfl rfl ?_ ?_<;>intro h<;>simp only [nc]at h<;>try omega)
    exact vO_ (y:=.mk ..) rfl (λhe=>absurd he h);refine vv_ (N_ acc (.mk yo yk ynm yfd yad yn yvk yvi yvf ya) (by omega)) (okA _) (vv_ (g_ (by omega) (by omega)) rfl (uu_ rfl ⟨(acc++[_],i+1),⟨by simp;omega,hi,?_⟩,rfl,by simp only;omega⟩));intro a ha;rcases List.mem_append.1 ha with ha|ha;exact h3 a ha;cases List.mem_singleton.1 ha;exact (hy h).1
   have hi:i=args.length:=(by omega);subst hi;have ha1:acc.length=1:=(by unfold Ari at hA;omega);obtain ⟨y,rfl⟩:=List.length_eq_one_iff.1 ha1;have hy:=h3 y (List.mem_singleton.2 rfl);obtain ⟨yo,yk,ynm,yfd,yad,yn,yvk,yvi,yvf,ya⟩:=y
   (refine a_ rfl rfl ?_ ?_<;>intro h<;>simp only [nc]at h<;>try omega)
   refine b_ (DP_ 3 kd [107] fd ad n vk vi vf args _ rfl) rfl (by show okL (VARS::(m_ (.mk 3 kd [107] fd ad n vk vi vf args)++[T_ _]))=true;rw [a1_];exact kS_.okL_join (okX _) (by simp only [okL,okA])) ⟨?_,trivial⟩;rintro ws ⟨e,rfl,he⟩;refine vO_ (y:=.mk 3 2 [107] fd 8 4 vk vi vf [.mk ..]) rfl (λh=>⟨⟨.inr (.inl ⟨.inl rfl,rfl⟩),hF,by decide,by decide,⟨λh=>by omega,λh=>by omega,λ_=>⟨rfl,rfl,rfl,_,rfl,he h⟩,λh=>by omega,λh=>by omega,λh=>by omega,λh=>by omega⟩,λa ha=>by cases List.mem_singleton.1 ha;exact hy⟩,rfl,λh=>by omega⟩)
  .refine uI_ (ι:=List GX×Nat) (λs=>[T_ s.1,.int .i64 (s.2:Int)]) (λs=>s.1.length=s.2/\s.2<=args.length/\∀a∈s.1,TX d a) (λs=>args.length-s.2) ([],0) ⟨rfl,Nat.zero_le _,λa ha=>(List.not_mem_nil ha).elim⟩ rfl (λs _=>by simp only [okL,okC,okA]) (λs s' _ _ h=>by simp at h;omega) (λs hs=>?_);obtain ⟨acc,i⟩:=s;obtain ⟨h1,h2,h3⟩:=hs;simp only at h1 h2 h3⊢;refine vv_ (t_ args) rfl ?_
   (refine a_ rfl rfl ?_ ?_<;>intro h<;>simp only [nc]at h<;>try omega)
   .have hi:i<args.length:=(by omega);have hld:=es_ args hi;have hz:=ih args[i] (List.getElem_mem hi);rcases hzz:args[i]with ⟨zo,zk,znm,zfd,zad,zn,zvk,zvi,zvf,za⟩;rw [hzz]at hld hz;refine vv_ (b8_ args hi) (kS_ okX _) (vf_ hld rfl (okX _) ?_);refine b_ hz rfl (by show okL (VARS::m_ (.mk zo zk znm zfd zad zn zvk zvi zvf za))=true;rw [a1_];exact okX _) ⟨?_,trivial⟩;rintro ws ⟨⟨yo,yk,ynm,yfd,yad,yn,yvk,yvi,yvf,ya⟩,e,rfl,hy⟩
    (refine a_ rfl rfl ?_ ?_<;>intro h<;>simp only [nc]at h<;>try omega)
    exact vO_ (y:=.mk ..) rfl (λhe=>absurd he h);refine vv_ (N_ acc (.mk yo yk ynm yfd yad yn yvk yvi yvf ya) (by omega)) (okA _) (vv_ (g_ (by omega) (by omega)) rfl (uu_ rfl ⟨(acc++[_],i+1),⟨by simp;omega,hi,?_⟩,rfl,by simp only;omega⟩));intro a ha;rcases List.mem_append.1 ha with ha|ha;exact h3 a ha;cases List.mem_singleton.1 ha;exact (hy h).1
   have hi:i=args.length:=(by omega);subst hi;by_cases hop:15<=op
   .have hop2:op=15\/op=16\/op=17:=(by unfold Ari at hA;omega);have ha1:acc.length=1:=(by unfold Ari at hA;omega);obtain ⟨y,rfl⟩:=List.length_eq_one_iff.1 ha1;have hy:=h3 y (List.mem_singleton.2 rfl);obtain ⟨yo,yk,ynm,yfd,yad,yn,yvk,yvi,yvf,ya⟩:=y;have n4':op=17->2<=kd/\kd<=5:=n4;rcases hop2 with rfl|rfl|rfl
    ·(refine a_ rfl rfl ?_ ?_<;>intro h<;>simp only [nc]at h<;>try omega)
     refine vv_ (r:=.int .i64 0) rfl rfl (vv_ (r:=.int .i64 yk) rfl rfl ?_);repeat' (first
               |(refine a_ rfl rfl ?_ ?_<;>intro h<;>simp only [nc]at h<;>try omega)
               |refine uG_ (zp_ _) rfl rfl ?_
               |refine uG_ (zo_ _) rfl rfl ?_
               |refine vd_ (.inr ⟨_,_,_,_,rfl,rfl⟩) ?_
               |refine w5_ rfl (λh=>?_) (λh=>?_)
               |refine vv_ (run_eql ..) rfl ?_
               |refine vv_ (run_neq ..) rfl ?_)
     all_goals (first
                 |exact vO_ (y:=.mk ..) rfl (λhe=>absurd he (by decide))
                 |(refine vO_ (y:=.mk _ _ _ _ _ _ _ _ _ [.mk ..]) rfl (λhe=>?_)
                   have he2:=zJ_ he;simp only [decide_eq_true_eq,Bool.not_eq_true',decide_eq_false_iff_not]at he2;refine ⟨TX1 hF hy ?_,rfl,λh=>by omega⟩;dsimp only [GX.kd];omega)
                 |(refine vO_ (y:=.mk _ _ _ _ _ _ _ _ _ [.mk ..]) rfl (λhe=>?_)
                   refine ⟨TX1 hF hy ?_,rfl,λh=>by omega⟩;dsimp only [GX.kd];omega))
    ·(refine a_ rfl rfl ?_ ?_<;>intro h<;>simp only [nc]at h<;>try omega)
     refine vv_ (r:=.int .i64 0) rfl rfl (vv_ (r:=.int .i64 yk) rfl rfl ?_);repeat' (first
               |(refine a_ rfl rfl ?_ ?_<;>intro h<;>simp only [nc]at h<;>try omega)
               |refine uG_ (zp_ _) rfl rfl ?_
               |refine uG_ (zo_ _) rfl rfl ?_
               |refine vd_ (.inr ⟨_,_,_,_,rfl,rfl⟩) ?_
               |refine w5_ rfl (λh=>?_) (λh=>?_)
               |refine vv_ (run_eql ..) rfl ?_
               |refine vv_ (run_neq ..) rfl ?_)
     all_goals (first
                 |exact vO_ (y:=.mk ..) rfl (λhe=>absurd he (by decide))
                 |(refine vO_ (y:=.mk _ _ _ _ _ _ _ _ _ [.mk ..]) rfl (λhe=>?_)
                   have he2:=zJ_ he;simp only [decide_eq_true_eq,Bool.not_eq_true',decide_eq_false_iff_not]at he2;refine ⟨TX1 hF hy ?_,rfl,λh=>by omega⟩;dsimp only [GX.kd];omega)
                 |(refine vO_ (y:=.mk _ _ _ _ _ _ _ _ _ [.mk ..]) rfl (λhe=>?_)
                   refine ⟨TX1 hF hy ?_,rfl,λh=>by omega⟩;dsimp only [GX.kd];omega))
    ·(refine a_ rfl rfl ?_ ?_<;>intro h<;>simp only [nc]at h<;>try omega)
     have n5:=n4 rfl;refine vv_ (r:=.int .i64 0) rfl rfl (vv_ (r:=.int .i64 yk) rfl rfl ?_);repeat' (first
               |(refine a_ rfl rfl ?_ ?_<;>intro h<;>simp only [nc]at h<;>try omega)
               |refine uG_ (zp_ _) rfl rfl ?_
               |refine uG_ (zo_ _) rfl rfl ?_
               |refine vd_ (.inr ⟨_,_,_,_,rfl,rfl⟩) ?_
               |refine w5_ rfl (λh=>?_) (λh=>?_)
               |refine vv_ (run_eql ..) rfl ?_
               |refine vv_ (run_neq ..) rfl ?_)
     all_goals (first
                 |exact vO_ (y:=.mk ..) rfl (λhe=>absurd he (by decide))
                 |(refine vO_ (y:=.mk _ _ _ _ _ _ _ _ _ [.mk ..]) rfl (λhe=>?_)
                   have he2:=zJ_ he;simp only [decide_eq_true_eq,Bool.not_eq_true',decide_eq_false_iff_not]at he2;refine ⟨TX1 hF hy ?_,rfl,λh=>by omega⟩;dsimp only [GX.kd];omega)
                 |(refine vO_ (y:=.mk _ _ _ _ _ _ _ _ _ [.mk ..]) rfl (λhe=>?_)
                   refine ⟨TX1 hF hy ?_,rfl,λh=>by omega⟩;dsimp only [GX.kd];omega))
   .have hop2:4<=op/\op<=14:=(by unfold Ari at hA;omega);have ha1:acc.length=2:=(by unfold Ari at hA;omega);obtain ⟨y,z,rfl⟩:∃y z,acc=[y,z]:=by
     rcases acc with _|⟨y,_|⟨z,_|⟨w,t⟩⟩⟩<;>simp at ha1
     exact ⟨y,z,rfl⟩
    have hy:=h3 y (List.mem_cons_self ..);have hz:=h3 z (List.mem_cons_of_mem _ (List.mem_singleton.2 rfl));obtain ⟨yo,yk,ynm,yfd,yad,yn,yvk,yvi,yvf,ya⟩:=y;obtain ⟨zo,zk,znm,zfd,zad,zn,zvk,zvi,zvf,za⟩:=z
    (refine a_ rfl rfl ?_ ?_<;>intro h<;>simp only [nc]at h<;>try omega)
    refine vv_ (r:=.int .i64 0) rfl rfl (vv_ (r:=.int .i64 yk) rfl rfl ?_)
    (refine a_ rfl rfl ?_ ?_<;>intro h<;>simp only [nc]at h<;>try omega);(refine a_ rfl rfl ?_ ?_<;>intro h<;>simp only [nc]at h<;>try omega);(refine a_ rfl rfl ?_ ?_<;>intro h<;>simp only [nc]at h<;>try omega);(refine a_ rfl rfl ?_ ?_<;>intro h<;>simp only [nc]at h<;>try omega)
    (refine a_ rfl rfl ?_ ?_<;>intro h<;>simp only [nc]at h<;>try omega)
    .refine vv_ (r:=.int .i64 0) rfl rfl (vf_ (cs:=m_ (.mk yo yk ynm yfd yad yn yvk yvi yvf ya)) rfl rfl (okX _) (vv_ (r:=.int .i64 1) rfl rfl (vv_ (r:=.int .i64 zk) rfl rfl ?_)));obtain ⟨⟨yo1,yk1,ynm1,yfd1,yad1,yn1,yvk1,yvi1,yvf1,ya1⟩,hp1,hy1⟩:=yM_ _ zk hy;refine uG_ hp1 rfl (yJ_ _) ?_;refine vv_ (r:=.int .i64 1) rfl rfl (vf_ (cs:=m_ (.mk zo zk znm zfd zad zn zvk zvi zvf za)) rfl rfl (okX _) (vv_ (r:=.int .i64 0) rfl rfl (vv_ (r:=.int .i64 yk) rfl rfl ?_)));obtain ⟨⟨zo1,zk1,znm1,zfd1,zad1,zn1,zvk1,zvi1,zvf1,za1⟩,hp2,hz1⟩:=yM_ _ yk hz;refine uG_ hp2 rfl (yJ_ _) ?_;clear hy hz;have hy:=hy1;have hz:=hz1;refine vv_ (r:=.int .i64 0) rfl rfl (vv_ (r:=T_ [.mk yo1 yk1 ynm1 yfd1 yad1 yn1 yvk1 yvi1 yvf1 ya1,.mk zo zk znm zfd zad zn zvk zvi zvf za]) (xf_ [(.mk yo yk ynm yfd yad yn yvk yvi yvf ya),(.mk zo zk znm zfd zad zn zvk zvi zvf za)] (i:=0) (by simp) (.mk yo1 yk1 ynm1 yfd1 yad1 yn1 yvk1 yvi1 yvf1 ya1) .i64) (okA _) (vv_ (r:=.int .i64 1) rfl rfl (vv_ (r:=T_ [.mk yo1 yk1 ynm1 yfd1 yad1 yn1 yvk1 yvi1 yvf1 ya1,.mk zo1 zk1 znm1 zfd1 zad1 zn1 zvk1 zvi1 zvf1 za1]) (xf_ [(.mk yo1 yk1 ynm1 yfd1 yad1 yn1 yvk1 yvi1 yvf1 ya1),(.mk zo zk znm zfd zad zn zvk zvi zvf za)] (i:=1) (by simp) (.mk zo1 zk1 znm1 zfd1 zad1 zn1 zvk1 zvi1 zvf1 za1) .i64) (okA _) ?_)));refine vv_ (r:=.int .i64 0) rfl rfl (vv_ (r:=.int .i64 yk1) rfl rfl (vv_ (r:=.int .i64 1) rfl rfl (vv_ (r:=.int .i64 zk1) rfl rfl ?_)));repeat' (first
               |(refine a_ rfl rfl ?_ ?_<;>intro h<;>simp only [nc]at h<;>try omega)
               |refine uG_ (zp_ _) rfl rfl ?_
               |refine uG_ (zo_ _) rfl rfl ?_
               |refine vd_ (.inr ⟨_,_,_,_,rfl,rfl⟩) ?_
               |refine w5_ rfl (λh=>?_) (λh=>?_)
               |refine vv_ (run_eql ..) rfl ?_
               |refine vv_ (run_neq ..) rfl ?_)
     all_goals (
                refine vO_ (y:=.mk _ _ _ _ _ _ _ _ _ [.mk ..,.mk ..]) rfl (λhe=>?_);have he2:=zJ_ he;first
                 |(exact absurd he2 (by decide))
                 |(simp only [decide_eq_true_eq,Bool.not_eq_true',decide_eq_false_iff_not]at he2
                   exact ⟨TX2 hF hy hz (by omega) (by dsimp only [GX.kd];omega) (by dsimp only [GX.kd];omega) (by omega) (by dsimp only [GX.kd];omega) (by dsimp only [GX.kd];omega) (by dsimp only [GX.kd];omega),rfl,λh=>by omega⟩))
    .refine vv_ (r:=.int .i64 1) rfl rfl (vv_ (r:=.int .i64 zk) rfl rfl ?_);repeat' (first
               |(refine a_ rfl rfl ?_ ?_<;>intro h<;>simp only [nc]at h<;>try omega)
               |refine uG_ (zp_ _) rfl rfl ?_
               |refine uG_ (zo_ _) rfl rfl ?_
               |refine vd_ (.inr ⟨_,_,_,_,rfl,rfl⟩) ?_
               |refine w5_ rfl (λh=>?_) (λh=>?_)
               |refine vv_ (run_eql ..) rfl ?_
               |refine vv_ (run_neq ..) rfl ?_)
     all_goals (
                refine vO_ (y:=.mk _ _ _ _ _ _ _ _ _ [.mk ..,.mk ..]) rfl (λhe=>?_);have he2:=zJ_ he;first
                 |(exact absurd he2 (by decide))
                 |(simp only [decide_eq_true_eq,Bool.not_eq_true',decide_eq_false_iff_not]at he2
                   exact ⟨TX2 hF hy hz (by omega) (by dsimp only [GX.kd];omega) (by dsimp only [GX.kd];omega) (by omega) (by dsimp only [GX.kd];omega) (by dsimp only [GX.kd];omega) (by dsimp only [GX.kd];omega),rfl,λh=>by omega⟩))
end Go.Proofs.YtjconanknjgpnaaGreat.vars
set_option maxRecDepth 100000
set_option linter.unusedVariables false
set_option linter.unusedSimpArgs false
namespace Go.Proofs.YtjconanknjgpnaaGreat.vars
open Go Go.Sx
def C5_:VC:=⟨⟨[],[]⟩,[(153,[(some 10),none,none]),(154,[(some 10)])],[],0,true,[(121,ft121)]⟩
def Ck_:VT:=Cf 121 ft121 [64,76,77,78,79,80,81,82,83,84,85] 92 11<|It Q5 [113,J 0] 114 (Dn [65,66,67,68,69,70,71,72,73,74,75,76,77,78,79,80,81,82,83,84,85,86,87,88,89,90,91,113])<|Cf 121 ft121 [64,66,67,68,69,70,71,72,73,74,75] 115 11<|It Q5 [136,J 0] 137 (Dn [65,66,67,68,69,70,71,72,73,74,75,76,77,78,79,80,81,82,83,84,85,86,87,88,89,90,91,136])<|.call 153 [64,68] 138 [(some 10),none,none]<|It (.bin .neq 9 false true) [69,.str []] 150 (Dn [65,66,67,68,69,70,71,72,73,74,75,76,77,78,79,80,81,82,83,84,85,86,87,88,89,90,91,J 4])<|Iq 139 1 151 (Dn [65,66,67,68,69,70,71,72,73,74,75,76,77,78,79,80,81,82,83,84,85,86,87,88,89,90,91,J 13])<|.call 154 [.agg [103,104,105,106,107,108,109,110,111,112],127] 152 [(some 10)]<|It Q7 [153,127] 162 (Dn [65,66,67,68,69,70,71,72,73,74,75,76,77,78,79,80,81,82,83,84,85,86,87,88,89,90,91,J 4])<|Dn [65,126,127,128,129,130,131,132,133,134,135,152,153,154,155,156,157,158,159,160,161,86,87,88,89,90,91,J 0]
def C6_:VC:=⟨⟨[],[]⟩,[(153,[(some 10),none,none]),(154,[(some 10)]),(53,[none])],[(0,[⟨[(4,.ptr 1 0),(3,.ptr 0 0),(9,.slx 3 1 0),(10,.slx 4 10 1),(11,.slx 2 0 0),(0,64),(7,102),(6,.ptr 2 0)],[(1,[J 0,J 0,J 0,.str [],.str [],J 0,J 0,J 0,J 0,.flt .f64 0,.nsl,J 0,J 0,.str [],.str [],J 0,J 0,J 0,J 0,.flt .f64 0,.nsl,.nsl,.nsl,.str [],J 0,J 0,.nsl]),(0,[65,66,67,68,69,70,71,72,73,74,75,76,77,78,79,80,81,82,83,84,85,86,87,88,89,90,91]),(2,[92,93,94,95,96,97,98,99,100,101])],5,3,[⟨3,1,0,9,none⟩,⟨4,10,1,10,none⟩],[],[]⟩]),(2,[⟨[(4,.ptr 1 0),(3,.ptr 0 0),(14,.slx 0 0 0),(9,.slx 3 1 1),(10,.slx 4 10 2),(6,.ptr 2 0),(7,102)],[(1,[J 0,J 0,J 0,.str [],.str [],J 0,J 0,J 0,J 0,.flt .f64 0,.nsl,J 0,J 0,.str [],.str [],J 0,J 0,J 0,J 0,.flt .f64 0,.nsl,.nsl,.nsl,.str [],J 0,J 0,.nsl]),(0,[65,66,67,68,69,70,71,72,73,74,75,76,77,78,79,80,81,82,83,84,85,86,87,88,89,90,91]),(2,[92,93,94,95,96,97,98,99,100,101])],5,3,[⟨3,1,1,9,none⟩,⟨4,10,2,10,none⟩],[],[]⟩])],0,true,[(121,ft121)]⟩
def Cl_:VT:=.call 153 [64,88] 92 [(some 10),none,none]<|It Q3 [103] 104 (Dn [65,66,67,68,69,70,71,72,73,74,75,76,77,78,79,80,81,82,83,84,85,86,87,88,89,90,91,J 3])<|.call 53 [94] 105 [none]<|It Z6 [105,J 2] 106 (Dn [65,66,67,68,69,70,71,72,73,74,75,76,77,78,79,80,81,82,83,84,85,86,87,88,89,90,91,J 4])<|Iq 94 9 107 (Iq 94 11 108 (.loop 109 0 [.vsl 1 1 [J 1],.nsl,J 0] (.cons 3 (Li Qe [91] 112<|It Q4 [111,112] 113 (Li Qa [91,111] 114<|.lt Qd [114] 115 (some 10)<|Cf 121 ft121 [64,115,116,117,118,119,120,121,122,123,124] 125 11<|It Q5 [146,J 0] 147 (Dn [65,66,67,68,69,70,71,72,73,74,75,76,77,78,79,80,81,82,83,84,85,86,87,88,89,90,91,146])<|Li Qf [109] 148<|It Q4 [111,148] 149 (Li Q1 [109,111] 150<|Li Qn [109,150] 151<|.call 154 [.agg [136,137,138,139,140,141,142,143,144,145],151] 152 [(some 10)]<|Li Qj [110,.agg [152,153,154,155,156,157,158,159,160,161]] 162<|Li Q2 [111,J 1] 163<|.again 0 0 [109,162,163])<|Li Qj [110,.agg [136,137,138,139,140,141,142,143,144,145]] 150<|Li Q2 [111,J 1] 151<|.again 0 0 [109,150,151])<|Li Qe [110] 114<|Li Qf [109] 115<|It Q7 [114,115] 116 (Dn [65,66,67,68,69,70,71,72,73,74,75,76,77,78,79,80,81,82,83,84,85,86,87,88,89,90,91,J 4])<|.loop 117 0 [J 0,109,110] (.cons 3 (Li Qf [118] 120<|It Q4 [117,120] 121 (Li Q1 [119,117] 122<|Li Qi [119,122] 123<|Li Q1 [118,117] 124<|Li Qn [118,124] 125<|It Q7 [123,125] 126 (Dn [65,66,67,68,69,70,71,72,73,74,75,76,77,78,79,80,81,82,83,84,85,86,87,88,89,90,91,J 4])<|Li Q2 [117,J 1] 127<|.again 1 0 [127,118,119])<|Dn [65,66,67,68,69,70,71,72,73,74,75,76,77,78,79,80,81,82,83,84,85,86,87,88,94,102,119,J 0]) .nil)) .nil))<|Iq 94 12 109 (.loop 110 0 [.vsl 1 1 [J 1],.nsl,J 0] (.cons 3 (Li Qe [91] 113<|It Q4 [112,113] 114 (Li Qa [91,112] 115<|.lt Qd [115] 116 (some 10)<|Cf 121 ft121 [64,116,117,118,119,120,121,122,123,124,125] 126 11<|It Q5 [147,J 0] 148 (Dn [65,66,67,68,69,70,71,72,73,74,75,76,77,78,79,80,81,82,83,84,85,86,87,88,89,90,91,147])<|Li Qf [110] 149<|It Q4 [112,149] 150 (Li Q1 [110,112] 151<|Li Qn [110,151] 152<|.call 154 [.agg [137,138,139,140,141,142,143,144,145,146],152] 153 [(some 10)]<|Li Qj [111,.agg [153,154,155,156,157,158,159,160,161,162]] 163<|Li Q2 [112,J 1] 164<|.again 0 0 [110,163,164])<|Li Qj [111,.agg [137,138,139,140,141,142,143,144,145,146]] 151<|Li Q2 [112,J 1] 152<|.again 0 0 [110,151,152])<|Li Qe [111] 115<|Li Qf [110] 116<|It Q7 [115,116] 117 (Dn [65,66,67,68,69,70,71,72,73,74,75,76,77,78,79,80,81,82,83,84,85,86,87,88,89,90,91,J 4])<|.loop 118 0 [J 0,110,111] (.cons 3 (Li Qf [119] 121<|It Q4 [118,121] 122 (Li Q1 [120,118] 123<|Li Qi [120,123] 124<|Li Q1 [119,118] 125<|Li Qn [119,125] 126<|It Q7 [124,126] 127 (Dn [65,66,67,68,69,70,71,72,73,74,75,76,77,78,79,80,81,82,83,84,85,86,87,88,89,90,91,J 4])<|Li Q2 [118,J 1] 128<|.again 1 0 [128,119,120])<|Dn [65,66,67,68,69,70,71,72,73,74,75,76,77,78,79,80,81,82,83,84,85,86,87,88,94,102,120,J 0]) .nil)) .nil))<|.loop 110 0 [.vsl 2 1 [J 1,J 2],.nsl,J 0] (.cons 3 (Li Qe [91] 113<|It Q4 [112,113] 114 (Li Qa [91,112] 115<|.lt Qd [115] 116 (some 10)<|Cf 121 ft121 [64,116,117,118,119,120,121,122,123,124,125] 126 11<|It Q5 [147,J 0] 148 (Dn [65,66,67,68,69,70,71,72,73,74,75,76,77,78,79,80,81,82,83,84,85,86,87,88,89,90,91,147])<|Li Qf [110] 149<|It Q4 [112,149] 150 (Li Q1 [110,112] 151<|Li Qn [110,151] 152<|.call 154 [.agg [137,138,139,140,141,142,143,144,145,146],152] 153 [(some 10)]<|Li Qj [111,.agg [153,154,155,156,157,158,159,160,161,162]] 163<|Li Q2 [112,J 1] 164<|.again 0 0 [110,163,164])<|Li Qj [111,.agg [137,138,139,140,141,142,143,144,145,146]] 151<|Li Q2 [112,J 1] 152<|.again 0 0 [110,151,152])<|Li Qe [111] 115<|Li Qf [110] 116<|It Q7 [115,116] 117 (Dn [65,66,67,68,69,70,71,72,73,74,75,76,77,78,79,80,81,82,83,84,85,86,87,88,89,90,91,J 4])<|.loop 118 0 [J 0,110,111] (.cons 3 (Li Qf [119] 121<|It Q4 [118,121] 122 (Li Q1 [120,118] 123<|Li Qi [120,123] 124<|Li Q1 [119,118] 125<|Li Qn [119,125] 126<|It Q7 [124,126] 127 (Dn [65,66,67,68,69,70,71,72,73,74,75,76,77,78,79,80,81,82,83,84,85,86,87,88,89,90,91,J 4])<|Li Q2 [118,J 1] 128<|.again 1 0 [128,119,120])<|Dn [65,66,67,68,69,70,71,72,73,74,75,76,77,78,79,80,81,82,83,84,85,86,87,88,94,102,120,J 0]) .nil)) .nil))<|Iq 94 10 108 (Iq 94 11 109 (.loop 110 0 [.vsl 1 1 [J 1],.nsl,J 0] (.cons 3 (Li Qe [91] 113<|It Q4 [112,113] 114 (Li Qa [91,112] 115<|.lt Qd [115] 116 (some 10)<|Cf 121 ft121 [64,116,117,118,119,120,121,122,123,124,125] 126 11<|It Q5 [147,J 0] 148 (Dn [65,66,67,68,69,70,71,72,73,74,75,76,77,78,79,80,81,82,83,84,85,86,87,88,89,90,91,147])<|Li Qf [110] 149<|It Q4 [112,149] 150 (Li Q1 [110,112] 151<|Li Qn [110,151] 152<|.call 154 [.agg [137,138,139,140,141,142,143,144,145,146],152] 153 [(some 10)]<|Li Qj [111,.agg [153,154,155,156,157,158,159,160,161,162]] 163<|Li Q2 [112,J 1] 164<|.again 0 0 [110,163,164])<|Li Qj [111,.agg [137,138,139,140,141,142,143,144,145,146]] 151<|Li Q2 [112,J 1] 152<|.again 0 0 [110,151,152])<|Li Qe [111] 115<|Li Qf [110] 116<|It Q7 [115,116] 117 (Dn [65,66,67,68,69,70,71,72,73,74,75,76,77,78,79,80,81,82,83,84,85,86,87,88,89,90,91,J 4])<|.loop 118 0 [J 0,110,111] (.cons 3 (Li Qf [119] 121<|It Q4 [118,121] 122 (Li Q1 [120,118] 123<|Li Qi [120,123] 124<|Li Q1 [119,118] 125<|Li Qn [119,125] 126<|It Q7 [124,126] 127 (Dn [65,66,67,68,69,70,71,72,73,74,75,76,77,78,79,80,81,82,83,84,85,86,87,88,89,90,91,J 4])<|Li Q2 [118,J 1] 128<|.again 1 0 [128,119,120])<|Dn [65,66,67,68,69,70,71,72,73,74,75,76,77,78,79,80,81,82,83,84,85,86,87,88,94,102,120,J 0]) .nil)) .nil))<|Iq 94 12 110 (.loop 111 0 [.vsl 1 1 [J 1],.nsl,J 0] (.cons 3 (Li Qe [91] 114<|It Q4 [113,114] 115 (Li Qa [91,113] 116<|.lt Qd [116] 117 (some 10)<|Cf 121 ft121 [64,117,118,119,120,121,122,123,124,125,126] 127 11<|It Q5 [148,J 0] 149 (Dn [65,66,67,68,69,70,71,72,73,74,75,76,77,78,79,80,81,82,83,84,85,86,87,88,89,90,91,148])<|Li Qf [111] 150<|It Q4 [113,150] 151 (Li Q1 [111,113] 152<|Li Qn [111,152] 153<|.call 154 [.agg [138,139,140,141,142,143,144,145,146,147],153] 154 [(some 10)]<|Li Qj [112,.agg [154,155,156,157,158,159,160,161,162,163]] 164<|Li Q2 [113,J 1] 165<|.again 0 0 [111,164,165])<|Li Qj [112,.agg [138,139,140,141,142,143,144,145,146,147]] 152<|Li Q2 [113,J 1] 153<|.again 0 0 [111,152,153])<|Li Qe [112] 116<|Li Qf [111] 117<|It Q7 [116,117] 118 (Dn [65,66,67,68,69,70,71,72,73,74,75,76,77,78,79,80,81,82,83,84,85,86,87,88,89,90,91,J 4])<|.loop 119 0 [J 0,111,112] (.cons 3 (Li Qf [120] 122<|It Q4 [119,122] 123 (Li Q1 [121,119] 124<|Li Qi [121,124] 125<|Li Q1 [120,119] 126<|Li Qn [120,126] 127<|It Q7 [125,127] 128 (Dn [65,66,67,68,69,70,71,72,73,74,75,76,77,78,79,80,81,82,83,84,85,86,87,88,89,90,91,J 4])<|Li Q2 [119,J 1] 129<|.again 1 0 [129,120,121])<|Dn [65,66,67,68,69,70,71,72,73,74,75,76,77,78,79,80,81,82,83,84,85,86,87,88,94,102,121,J 0]) .nil)) .nil))<|.loop 111 0 [.vsl 2 1 [J 1,J 2],.nsl,J 0] (.cons 3 (Li Qe [91] 114<|It Q4 [113,114] 115 (Li Qa [91,113] 116<|.lt Qd [116] 117 (some 10)<|Cf 121 ft121 [64,117,118,119,120,121,122,123,124,125,126] 127 11<|It Q5 [148,J 0] 149 (Dn [65,66,67,68,69,70,71,72,73,74,75,76,77,78,79,80,81,82,83,84,85,86,87,88,89,90,91,148])<|Li Qf [111] 150<|It Q4 [113,150] 151 (Li Q1 [111,113] 152<|Li Qn [111,152] 153<|.call 154 [.agg [138,139,140,141,142,143,144,145,146,147],153] 154 [(some 10)]<|Li Qj [112,.agg [154,155,156,157,158,159,160,161,162,163]] 164<|Li Q2 [113,J 1] 165<|.again 0 0 [111,164,165])<|Li Qj [112,.agg [138,139,140,141,142,143,144,145,146,147]] 152<|Li Q2 [113,J 1] 153<|.again 0 0 [111,152,153])<|Li Qe [112] 116<|Li Qf [111] 117<|It Q7 [116,117] 118 (Dn [65,66,67,68,69,70,71,72,73,74,75,76,77,78,79,80,81,82,83,84,85,86,87,88,89,90,91,J 4])<|.loop 119 0 [J 0,111,112] (.cons 3 (Li Qf [120] 122<|It Q4 [119,122] 123 (Li Q1 [121,119] 124<|Li Qi [121,124] 125<|Li Q1 [120,119] 126<|Li Qn [120,126] 127<|It Q7 [125,127] 128 (Dn [65,66,67,68,69,70,71,72,73,74,75,76,77,78,79,80,81,82,83,84,85,86,87,88,89,90,91,J 4])<|Li Q2 [119,J 1] 129<|.again 1 0 [129,120,121])<|Dn [65,66,67,68,69,70,71,72,73,74,75,76,77,78,79,80,81,82,83,84,85,86,87,88,94,102,121,J 0]) .nil)) .nil))<|Iq 94 11 109 (.loop 110 0 [.vsl 1 1 [J 1],.nsl,J 0] (.cons 3 (Li Qe [91] 113<|It Q4 [112,113] 114 (Li Qa [91,112] 115<|.lt Qd [115] 116 (some 10)<|Cf 121 ft121 [64,116,117,118,119,120,121,122,123,124,125] 126 11<|It Q5 [147,J 0] 148 (Dn [65,66,67,68,69,70,71,72,73,74,75,76,77,78,79,80,81,82,83,84,85,86,87,88,89,90,91,147])<|Li Qf [110] 149<|It Q4 [112,149] 150 (Li Q1 [110,112] 151<|Li Qn [110,151] 152<|.call 154 [.agg [137,138,139,140,141,142,143,144,145,146],152] 153 [(some 10)]<|Li Qj [111,.agg [153,154,155,156,157,158,159,160,161,162]] 163<|Li Q2 [112,J 1] 164<|.again 0 0 [110,163,164])<|Li Qj [111,.agg [137,138,139,140,141,142,143,144,145,146]] 151<|Li Q2 [112,J 1] 152<|.again 0 0 [110,151,152])<|Li Qe [111] 115<|Li Qf [110] 116<|It Q7 [115,116] 117 (Dn [65,66,67,68,69,70,71,72,73,74,75,76,77,78,79,80,81,82,83,84,85,86,87,88,89,90,91,J 4])<|.loop 118 0 [J 0,110,111] (.cons 3 (Li Qf [119] 121<|It Q4 [118,121] 122 (Li Q1 [120,118] 123<|Li Qi [120,123] 124<|Li Q1 [119,118] 125<|Li Qn [119,125] 126<|It Q7 [124,126] 127 (Dn [65,66,67,68,69,70,71,72,73,74,75,76,77,78,79,80,81,82,83,84,85,86,87,88,89,90,91,J 4])<|Li Q2 [118,J 1] 128<|.again 1 0 [128,119,120])<|Dn [65,66,67,68,69,70,71,72,73,74,75,76,77,78,79,80,81,82,83,84,85,86,87,88,94,102,120,J 0]) .nil)) .nil))<|Iq 94 12 110 (.loop 111 0 [.vsl 1 1 [J 1],.nsl,J 0] (.cons 3 (Li Qe [91] 114<|It Q4 [113,114] 115 (Li Qa [91,113] 116<|.lt Qd [116] 117 (some 10)<|Cf 121 ft121 [64,117,118,119,120,121,122,123,124,125,126] 127 11<|It Q5 [148,J 0] 149 (Dn [65,66,67,68,69,70,71,72,73,74,75,76,77,78,79,80,81,82,83,84,85,86,87,88,89,90,91,148])<|Li Qf [111] 150<|It Q4 [113,150] 151 (Li Q1 [111,113] 152<|Li Qn [111,152] 153<|.call 154 [.agg [138,139,140,141,142,143,144,145,146,147],153] 154 [(some 10)]<|Li Qj [112,.agg [154,155,156,157,158,159,160,161,162,163]] 164<|Li Q2 [113,J 1] 165<|.again 0 0 [111,164,165])<|Li Qj [112,.agg [138,139,140,141,142,143,144,145,146,147]] 152<|Li Q2 [113,J 1] 153<|.again 0 0 [111,152,153])<|Li Qe [112] 116<|Li Qf [111] 117<|It Q7 [116,117] 118 (Dn [65,66,67,68,69,70,71,72,73,74,75,76,77,78,79,80,81,82,83,84,85,86,87,88,89,90,91,J 4])<|.loop 119 0 [J 0,111,112] (.cons 3 (Li Qf [120] 122<|It Q4 [119,122] 123 (Li Q1 [121,119] 124<|Li Qi [121,124] 125<|Li Q1 [120,119] 126<|Li Qn [120,126] 127<|It Q7 [125,127] 128 (Dn [65,66,67,68,69,70,71,72,73,74,75,76,77,78,79,80,81,82,83,84,85,86,87,88,89,90,91,J 4])<|Li Q2 [119,J 1] 129<|.again 1 0 [129,120,121])<|Dn [65,66,67,68,69,70,71,72,73,74,75,76,77,78,79,80,81,82,83,84,85,86,87,88,94,102,121,J 0]) .nil)) .nil))<|.loop 111 0 [.vsl 2 1 [J 1,J 4],.nsl,J 0] (.cons 3 (Li Qe [91] 114<|It Q4 [113,114] 115 (Li Qa [91,113] 116<|.lt Qd [116] 117 (some 10)<|Cf 121 ft121 [64,117,118,119,120,121,122,123,124,125,126] 127 11<|It Q5 [148,J 0] 149 (Dn [65,66,67,68,69,70,71,72,73,74,75,76,77,78,79,80,81,82,83,84,85,86,87,88,89,90,91,148])<|Li Qf [111] 150<|It Q4 [113,150] 151 (Li Q1 [111,113] 152<|Li Qn [111,152] 153<|.call 154 [.agg [138,139,140,141,142,143,144,145,146,147],153] 154 [(some 10)]<|Li Qj [112,.agg [154,155,156,157,158,159,160,161,162,163]] 164<|Li Q2 [113,J 1] 165<|.again 0 0 [111,164,165])<|Li Qj [112,.agg [138,139,140,141,142,143,144,145,146,147]] 152<|Li Q2 [113,J 1] 153<|.again 0 0 [111,152,153])<|Li Qe [112] 116<|Li Qf [111] 117<|It Q7 [116,117] 118 (Dn [65,66,67,68,69,70,71,72,73,74,75,76,77,78,79,80,81,82,83,84,85,86,87,88,89,90,91,J 4])<|.loop 119 0 [J 0,111,112] (.cons 3 (Li Qf [120] 122<|It Q4 [119,122] 123 (Li Q1 [121,119] 124<|Li Qi [121,124] 125<|Li Q1 [120,119] 126<|Li Qn [120,126] 127<|It Q7 [125,127] 128 (Dn [65,66,67,68,69,70,71,72,73,74,75,76,77,78,79,80,81,82,83,84,85,86,87,88,89,90,91,J 4])<|Li Q2 [119,J 1] 129<|.again 1 0 [129,120,121])<|Dn [65,66,67,68,69,70,71,72,73,74,75,76,77,78,79,80,81,82,83,84,85,86,87,88,94,102,121,J 0]) .nil)) .nil)
def c78:VC:=⟨⟨[],[]⟩,[],[],0,true,[(121,ft121),(119,y0_),(120,y1_),(46,ft46)]⟩
def t78:VT:=Iq 65 1 92 (Cf 119 y0_ [64,65,66,67,68,69,70,71,72,73,74,75,76,77,78,79,80,81,82,83,84,85,86,87,88,89,90,91] 93 28<|Dn [121,122,123,124,125,126,127,128,129,130,131,132,133,134,135,136,137,138,139,140,141,142,143,144,145,146,147,148])<|Iq 65 4 93 (Cf 120 y1_ [64,65,66,67,68,69,70,71,72,73,74,75,76,77,78,79,80,81,82,83,84,85,86,87,88,89,90,91] 94 28<|Dn [122,123,124,125,126,127,128,129,130,131,132,133,134,135,136,137,138,139,140,141,142,143,144,145,146,147,148,149])<|Cf 121 ft121 [64,76,77,78,79,80,81,82,83,84,85] 94 11<|It Q5 [115,J 0] 116 (Dn [65,66,67,68,69,70,71,72,73,74,75,76,77,78,79,80,81,82,83,84,85,86,87,88,89,90,91,115])<|It Q6 [106,J 1] 117 (Dn [65,66,67,68,69,70,71,72,73,74,75,76,77,78,79,80,81,82,83,84,85,86,87,88,89,90,91,J 4])<|Cf 46 ft46 [64,86] 118 2<|It Q5 [121,J 0] 122 (Dn [65,66,67,68,69,70,71,72,73,74,75,105,106,107,108,109,110,111,112,113,114,120,87,88,89,90,91,121])<|Cf 46 ft46 [64,87] 123 2<|Dn [65,66,67,68,69,70,71,72,73,74,75,105,106,107,108,109,110,111,112,113,114,120,125,88,89,90,91,126]
def c46:VC:=⟨⟨[],[]⟩,[],[(0,[⟨[(6,.slx 0 27 0),(7,.slx 1 0 0),(1,65),(0,64)],[],1,2,[⟨0,27,0,6,none⟩],[],[]⟩])],0,true,[(78,ft78)]⟩
def t46:VT:=.loop 66 0 [.nsl,J 0] (.cons 2 (Li Za [65] 68<|It Q4 [67,68] 69 (Li Qx [65,67] 70<|.lt Zq [70] 71 (some 27)<|Cf 78 ft78 [64,71,72,73,74,75,76,77,78,79,80,81,82,83,84,85,86,87,88,89,90,91,92,93,94,95,96,97] 98 28<|It Q5 [153,J 0] 154 (Dn [.nsl,153])<|Li Zm [66,.agg [126,127,128,129,130,131,132,133,134,135,136,137,138,139,140,141,142,143,144,145,146,147,148,149,150,151,152]] 155<|Li Q2 [67,J 1] 156<|.again 0 0 [155,156])<|Dn [66,J 0]) .nil)
theorem zU_ {nm fd:List UInt8} (h:(nm,fd)∈wO_\/nm=[107]):∃(s:List UInt8) (r k z a b:Int) (c:Nat) (d e:Int) (f:Nat) (g:Int),kH_ Tryz.prog 153 [VARS,.str nm] (.tup [.agg [.str s,.int .i64 r,.int .i64 k,.int .i64 z,.int .i64 a,.int .i64 b,.flt .f64 c,.int .i64 d,.int .i64 e,.flt .f64 f],.int .i64 g,.bool true])/\(nm,r)∈zr_:=by rcases h with h|rfl;simp only [wO_,List.mem_cons,Prod.mk.injEq,List.not_mem_nil,or_false]at h;rcases h with ⟨rfl,rfl⟩|⟨rfl,rfl⟩|⟨rfl,rfl⟩|⟨rfl,rfl⟩|⟨rfl,rfl⟩|⟨rfl,rfl⟩|⟨rfl,rfl⟩|⟨rfl,rfl⟩|⟨rfl,rfl⟩|⟨rfl,rfl⟩|⟨rfl,rfl⟩;exact ⟨_,_,_,_,_,_,_,_,_,_,_,zd_,by decide⟩;exact ⟨_,_,_,_,_,_,_,_,_,_,_,yl_,by decide⟩;exact ⟨_,_,_,_,_,_,_,_,_,_,_,am_,by decide⟩;exact ⟨_,_,_,_,_,_,_,_,_,_,_,zc_,by decide⟩;exact ⟨_,_,_,_,_,_,_,_,_,_,_,yn_,by decide⟩;exact ⟨_,_,_,_,_,_,_,_,_,_,_,yk_,by decide⟩;exact ⟨_,_,_,_,_,_,_,_,_,_,_,xZ_,by decide⟩;exact ⟨_,_,_,_,_,_,_,_,_,_,_,yo_,by decide⟩;exact ⟨_,_,_,_,_,_,_,_,_,_,_,am_,by decide⟩;exact ⟨_,_,_,_,_,_,_,_,_,_,_,ym_,by decide⟩;exact ⟨_,_,_,_,_,_,_,_,_,_,_,yp_,by decide⟩;exact ⟨_,_,_,_,_,_,_,_,_,_,_,xp_,by decide⟩
def Blk (kd ad:Int) (ks:List Int):Prop:=(kd=6/\ad=12/\ks=[1,4])\/(kd=9/\ad=16/\ks=[1,2])\/(kd=11/\ad=19/\ks=[1])
def TS:Nat->GS->Prop
 |0,_=>False
 |d+1,.mk op to e thn els nm kd ad args=>
  (op=1/\TX 5 to/\(to.op=2/\(to.ad,to.kd)∈wrL\/to.op=3)/\TX 6 e/\e.kd=to.kd/\thn=[]/\els=[])\/
  ((op=2\/op=3)/\TX 5 e/\e.kd=1/\thn.length<=5/\els.length<=5/\(∀s∈thn,TS d s)/\∀s∈els,TS d s)\/
  (op=4/\Blk kd ad (args.map GX.kd)/\(∀a∈args,TX 5 a)/\thn=[]/\els=[])
def LK (x y:GS):Prop:=match x,y with
 | .mk op to ..,.mk op' to' .. =>op=1->op'=1/\NT to to'
def RT (d:Nat) (x:GS):Nat->List AV->Prop:=λ_ ws=>∃(y:GS) (e:Int),ws=pY_ y++[.int .i64 e]/\(e=0->TS d y/\LK x y)
def LKs (l y:List GS):Prop:=∀(j:Nat) (h1:j<l.length) (h2:j<y.length),LK l[j] y[j]
def RU (d:Nat) (l:List GS):Nat->List AV->Prop:=λ_ ws=>∃(y:List GS) (e:Int),ws=[P_ y,.int .i64 e]/\(e=0->y.length=l.length/\(∀s∈y,TS d s)/\LKs l y)
theorem W_ {d j:Nat} {x y:GS} {e:Int} {hv:List AV} {Y:Sy} {L:List (Nat->List AV->Prop)} (h:ab_ Y.v hv=pY_ y++[.int .i64 e]) (hw:e=0->TS d y/\LK x y):VOK Tryz.prog (QF (RT d x)) L Y (.done (.tup (.int .i64 (.ofNat j)::hv))):=
 VOK_fin (by rw [h];exact BZ_ y e) ⟨y,e,h,hw⟩
theorem yI_ (x:GX):okL (VARS::m_ x)=true:=by rw [a1_];exact okX x
theorem AZ_ (x:GS):okL (VARS::pY_ x)=true:=by rw [a1_];exact okS x
theorem DL_ (d:Nat) (to e:GX) (thn els:List GS) (nm:List UInt8) (kd ad:Int) (args:List GX) (ht:WX 5 to) (ho:to.op=2\/to.op=3) (he:WX 6 e) (hnil:thn=[]/\els=[]):
  CF Tryz.prog 119 y0_ (VARS::pY_ (.mk 1 to e thn els nm kd ad args)) (RT (d+1) (.mk 1 to e thn els nm kd ad args)):=by
 have h1:=x4_ 5 to ht;have h2:=x4_ 6 e he;obtain ⟨to1,to2,to3,to4,to5,to6,to7,to8,to9,to10⟩:=to;obtain ⟨e1,e2,e3,e4,e5,e6,e7,e8,e9,e10⟩:=e;refine vh_ (c:=C5_) (n:=300) (t:=Ck_) mo ov rfl (λY _=>vC_ _) (by kernel_rfl) λY hf hg=>?_;unfold Ck_;refine b_ h2 rfl (yI_ _) ⟨?_,trivial⟩;rintro ws ⟨⟨y1,y2,y3,y4,y5,y6,y7,y8,y9,y10⟩,er,rfl,hy⟩
 (refine a_ rfl rfl ?_ ?_<;>intro h<;>simp only [nc]at h<;>try omega)
 ·(exact W_ (y:=.mk _ (.mk ..) (.mk ..) _ _ _ _ _ _) rfl (λhe=>absurd he (by first|assumption|decide)))
 have hy:=(hy h).1;refine b_ h1 rfl (yI_ _) ⟨?_,trivial⟩;rintro ws ⟨⟨z1,z2,z3,z4,z5,z6,z7,z8,z9,z10⟩,er2,rfl,hz⟩
 (refine a_ rfl rfl ?_ ?_<;>intro h<;>simp only [nc]at h<;>try omega)
 ·(exact W_ (y:=.mk _ (.mk ..) (.mk ..) _ _ _ _ _ _) rfl (λhe=>absurd he (by first|assumption|decide)))
 have hz:=hz h;obtain ⟨s,r,k,z,a,b,c,d',e',f,g,hp,hro⟩:=zU_ (nm:=to3) (fd:=to4) (by
  have ht':Nod to1 to2 to3 to4 to7 to8 to9:=ht.2.2.1;rcases ho with ho|ho;exact .inl (ht'.2.1 ho)
  .exact .inr (ht'.2.2.1 ho))
 refine uG_ hp rfl rfl ?_;refine vv_ (vp_ ..) rfl (ve_ rfl (λh=>?_) (λhfd=>?_))
 ·(exact W_ (y:=.mk _ (.mk ..) (.mk ..) _ _ _ _ _ _) rfl (λhe=>absurd he (by first|assumption|decide)))
 (refine a_ rfl rfl ?_ ?_<;>intro h<;>simp only [nc]at h<;>try omega)
 ·(exact W_ (y:=.mk _ (.mk ..) (.mk ..) _ _ _ _ _ _) rfl (λhe=>absurd he (by first|assumption|decide)))
 have hr1:=h;obtain ⟨⟨yo1,yk1,ynm1,yfd1,yad1,yn1,yvk1,yvi1,yvf1,ya1⟩,hp1,hy1⟩:=yM_ _ z2 hy;refine uG_ hp1 rfl (yJ_ _) ?_
 (refine a_ rfl rfl ?_ ?_<;>intro h<;>simp only [nc]at h<;>try omega)
 ·(exact W_ (y:=.mk _ (.mk ..) (.mk ..) _ _ _ _ _ _) rfl (λhe=>absurd he (by first|assumption|decide)))
 rcases ho with ho|ho;exact W_ (y:=.mk 1 (.mk ..) (.mk ..) _ _ _ _ _ _) rfl (λ_=>⟨.inl ⟨rfl,hz.1,.inl ⟨hz.2.1.trans ho,tie_wr _ (hz.2.2 ho) _ hro (by simpa using hfd) rfl hr1⟩,hy1,h,hnil⟩,λ_=>⟨rfl,hz.2.2⟩⟩);exact W_ (y:=.mk 1 (.mk ..) (.mk ..) _ _ _ _ _ _) rfl (λ_=>⟨.inl ⟨rfl,hz.1,.inr (hz.2.1.trans ho),hy1,h,hnil⟩,λ_=>⟨rfl,hz.2.2⟩⟩)
theorem yC_ {d:Nat} {acc:List GX} {y:GX} (h:∀a∈acc,TX d a) (hy:TX d y):∀a∈acc++[y],TX d a:=λa ha=>by rcases List.mem_append.1 ha with ha|ha;exact h a ha;cases List.mem_singleton.1 ha;exact hy
theorem DM_ (d:Nat) (to e:GX) (thn els:List GS) (nm:List UInt8) (kd ad:Int) (args:List GX) (hn:nm=[116,109]\/nm=[99]\/nm=[101]) (hl:args.length<=2) (hW:∀a∈args,WX 5 a) (hnil:thn=[]/\els=[]):
  CF Tryz.prog 120 y1_ (VARS::pY_ (.mk 4 to e thn els nm kd ad args)) (RT (d+1) (.mk 4 to e thn els nm kd ad args)):=by
 obtain ⟨to1,to2,to3,to4,to5,to6,to7,to8,to9,to10⟩:=to;obtain ⟨e1,e2,e3,e4,e5,e6,e7,e8,e9,e10⟩:=e;refine vh_ (c:=C6_) (n:=300) (t:=Cl_) mo ov rfl (λY _=>vC_ _) (by kernel_rfl) λY hf hg=>?_;unfold Cl_;rcases hn with rfl|rfl|rfl
 .refine uG_ am_ rfl rfl (vv_ rfl rfl (ve_ rfl (λh=>by cases h) (λ_=>uG_ zb_ rfl rfl ?_)))
  (refine a_ rfl rfl ?_ ?_<;>intro h<;>simp only [nc]at h<;>try omega);(refine a_ rfl rfl ?_ ?_<;>intro h<;>simp only [nc]at h<;>try omega);(refine a_ rfl rfl ?_ ?_<;>intro h<;>simp only [nc]at h<;>try omega);(refine a_ rfl rfl ?_ ?_<;>intro h<;>simp only [nc]at h<;>try omega);(refine a_ rfl rfl ?_ ?_<;>intro h<;>simp only [nc]at h<;>try omega)
  (
   refine uI_ (ι:=List GX×Nat) (λs=>[(.vsl 2 1 [.int .i64 1,.int .i64 4]),T_ s.1,.int .i64 (s.2:Int)]) (λs=>s.1.length=s.2/\s.2<=args.length/\∀a∈s.1,TX 5 a) (λs=>args.length-s.2) ([],0) ⟨rfl,Nat.zero_le _,λa ha=>(List.not_mem_nil ha).elim⟩ rfl (λs _=>by simp only [okL,okC,okA]) (λs s' _ _ h=>by simp at h;omega) (λs hs=>?_);obtain ⟨acc,i⟩:=s;obtain ⟨h1,h2,h3⟩:=hs;simp only at h1 h2 h3⊢;refine vv_ (t_ args) rfl ?_
   (refine a_ rfl rfl ?_ ?_<;>intro h<;>simp only [nc]at h<;>try omega)
   .have hi:i<args.length:=(by omega);have hld:=es_ args hi;have hz:=x4_ 5 args[i] (hW _ (List.getElem_mem hi));rcases hzz:args[i]with ⟨zo,zk,znm,zfd,zad,zn,zvk,zvi,zvf,za⟩;rw [hzz]at hld hz;refine vv_ (b8_ args hi) (kS_ okX _) (vf_ hld rfl (okX _) ?_);refine b_ hz rfl (yI_ _) ⟨?_,trivial⟩;rintro ws ⟨⟨yo,yk,ynm,yfd,yad,yn,yvk,yvi,yvf,ya⟩,e,rfl,hy⟩
    (refine a_ rfl rfl ?_ ?_<;>intro h<;>simp only [nc]at h<;>try omega)
    ·(exact W_ (y:=.mk _ (.mk ..) (.mk ..) _ _ _ _ _ _) rfl (λhe=>absurd he (by first|assumption|decide)))
    have hy:=(hy h).1;refine vv_ (r:=.int .i64 2) rfl rfl ?_
    (refine a_ rfl rfl ?_ ?_<;>intro h<;>simp only [nc]at h<;>try omega)
    all_goals first
     |(have hi2:i=0\/i=1:=by omega
       rcases hi2 with rfl|rfl;all_goals try (exfalso;omega)
       all_goals
        refine vv_ rfl rfl (vv_ rfl rfl ?_);obtain ⟨⟨yo1,yk1,ynm1,yfd1,yad1,yn1,yvk1,yvi1,yvf1,ya1⟩,hp1,hy1⟩:=yM_ _ _ hy;refine uG_ hp1 rfl (yJ_ _) ?_;refine vv_ (N_ acc (.mk yo1 yk1 ynm1 yfd1 yad1 yn1 yvk1 yvi1 yvf1 ya1) (by omega)) (okA _) (vv_ (g_ (by omega) (by omega)) rfl (uu_ rfl ⟨(acc++[_],_),⟨by rw [List.length_append,h1];rfl,hi,yC_ h3 hy1⟩,rfl,by simp only;omega⟩)))
     |exact vv_ (N_ acc (.mk yo yk ynm yfd yad yn yvk yvi yvf ya) (by omega)) (okA _) (vv_ (g_ (by omega) (by omega)) rfl (uu_ rfl ⟨(acc++[_],i+1),⟨by rw [List.length_append,h1];rfl,hi,yC_ h3 hy⟩,rfl,by simp only;omega⟩))
   have hi:i=args.length:=(by omega);subst hi;refine vv_ (t_ acc) rfl (vv_ (r:=.int .i64 2) rfl rfl ?_))
  (refine a_ rfl rfl ?_ ?_<;>intro h<;>simp only [nc]at h<;>try omega)
  ·(exact W_ (y:=.mk _ (.mk ..) (.mk ..) _ _ _ _ _ _) rfl (λhe=>absurd he (by first|assumption|decide)))
  have ha:acc.length=2:=(by have h':(acc.length:Int)=2:=h;omega);obtain ⟨y,z,rfl⟩:∃y z,acc=[y,z]:=by
   rcases acc with _|⟨y,_|⟨z,_|⟨w,t⟩⟩⟩<;>simp at ha
   exact ⟨y,z,rfl⟩
  obtain ⟨y1,y2,y3,y4,y5,y6,y7,y8,y9,y10⟩:=y;obtain ⟨z1,z2,z3,z4,z5,z6,z7,z8,z9,z10⟩:=z;refine uI_ (ι:=Nat) (λi=>[.int .i64 (i:Int),.vsl 2 1 [.int .i64 1,.int .i64 4],T_ [.mk y1 y2 y3 y4 y5 y6 y7 y8 y9 y10,.mk z1 z2 z3 z4 z5 z6 z7 z8 z9 z10]]) (λi=>i<=2/\(1<=i->y2=1)/\(2<=i->z2=4)) (λi=>2-i) 0 ⟨by decide,λh=>by omega,λh=>by omega⟩ rfl (λs _=>by simp only [okL,okC,okA]) (λs s' _ _ h=>by simp at h;omega) (λi hi=>?_);obtain ⟨i1,i2,i3⟩:=hi;refine vv_ (r:=.int .i64 2) rfl rfl ?_
  (refine a_ rfl rfl ?_ ?_<;>intro h<;>simp only [nc]at h<;>try omega)
  .have hi2:i=0\/i=1:=(by omega);rcases hi2 with rfl|rfl
   .refine vv_ (r:=.int .i64 0) rfl rfl (vv_ (r:=.int .i64 y2) rfl rfl (vv_ (r:=.int .i64 0) rfl rfl (vv_ (r:=.int .i64 1) rfl rfl ?_)))
    (refine a_ rfl rfl ?_ ?_<;>intro h<;>simp only [nc]at h<;>try omega)
    ·(exact W_ (y:=.mk _ (.mk ..) (.mk ..) _ _ _ _ _ _) rfl (λhe=>absurd he (by first|assumption|decide)))
    exact vv_ (g_ (by omega) (by omega)) rfl (uu_ rfl ⟨1,⟨by decide,λ_=>h,λh=>by omega⟩,rfl,by decide⟩)
   .refine vv_ (r:=.int .i64 1) rfl rfl (vv_ (r:=.int .i64 z2) rfl rfl (vv_ (r:=.int .i64 1) rfl rfl (vv_ (r:=.int .i64 4) rfl rfl ?_)))
    (refine a_ rfl rfl ?_ ?_<;>intro h<;>simp only [nc]at h<;>try omega)
    ·(exact W_ (y:=.mk _ (.mk ..) (.mk ..) _ _ _ _ _ _) rfl (λhe=>absurd he (by first|assumption|decide)))
    exact vv_ (g_ (by omega) (by omega)) rfl (uu_ rfl ⟨2,⟨by decide,λ_=>i2 (by decide),λ_=>h⟩,rfl,by decide⟩)
  refine W_ (y:=.mk 4 (.mk ..) (.mk ..) _ _ _ _ _ [.mk ..,.mk ..]) rfl (λ_=>⟨.inr (.inr ⟨rfl,?_,h3,hnil⟩),λh=>by omega⟩);cases i2 (by omega);cases i3 (by omega);exact .inl ⟨rfl,rfl,rfl⟩
 .refine uG_ xZ_ rfl rfl (vv_ rfl rfl (ve_ rfl (λh=>by cases h) (λ_=>uG_ Am_ rfl rfl ?_)));repeat (refine a_ rfl rfl ?_ ?_<;>intro h<;>simp only [nc]at h<;>try omega)
  (
   refine uI_ (ι:=List GX×Nat) (λs=>[(.vsl 2 1 [.int .i64 1,.int .i64 2]),T_ s.1,.int .i64 (s.2:Int)]) (λs=>s.1.length=s.2/\s.2<=args.length/\∀a∈s.1,TX 5 a) (λs=>args.length-s.2) ([],0) ⟨rfl,Nat.zero_le _,λa ha=>(List.not_mem_nil ha).elim⟩ rfl (λs _=>by simp only [okL,okC,okA]) (λs s' _ _ h=>by simp at h;omega) (λs hs=>?_);obtain ⟨acc,i⟩:=s;obtain ⟨h1,h2,h3⟩:=hs;simp only at h1 h2 h3⊢;refine vv_ (t_ args) rfl ?_
   (refine a_ rfl rfl ?_ ?_<;>intro h<;>simp only [nc]at h<;>try omega)
   .have hi:i<args.length:=(by omega);have hld:=es_ args hi;have hz:=x4_ 5 args[i] (hW _ (List.getElem_mem hi));rcases hzz:args[i]with ⟨zo,zk,znm,zfd,zad,zn,zvk,zvi,zvf,za⟩;rw [hzz]at hld hz;refine vv_ (b8_ args hi) (kS_ okX _) (vf_ hld rfl (okX _) ?_);refine b_ hz rfl (yI_ _) ⟨?_,trivial⟩;rintro ws ⟨⟨yo,yk,ynm,yfd,yad,yn,yvk,yvi,yvf,ya⟩,e,rfl,hy⟩
    (refine a_ rfl rfl ?_ ?_<;>intro h<;>simp only [nc]at h<;>try omega)
    ·(exact W_ (y:=.mk _ (.mk ..) (.mk ..) _ _ _ _ _ _) rfl (λhe=>absurd he (by first|assumption|decide)))
    have hy:=(hy h).1;refine vv_ (r:=.int .i64 2) rfl rfl ?_
    (refine a_ rfl rfl ?_ ?_<;>intro h<;>simp only [nc]at h<;>try omega)
    all_goals first
     |(have hi2:i=0\/i=1:=by omega
       rcases hi2 with rfl|rfl;all_goals try (exfalso;omega)
       all_goals
        refine vv_ rfl rfl (vv_ rfl rfl ?_);obtain ⟨⟨yo1,yk1,ynm1,yfd1,yad1,yn1,yvk1,yvi1,yvf1,ya1⟩,hp1,hy1⟩:=yM_ _ _ hy;refine uG_ hp1 rfl (yJ_ _) ?_;refine vv_ (N_ acc (.mk yo1 yk1 ynm1 yfd1 yad1 yn1 yvk1 yvi1 yvf1 ya1) (by omega)) (okA _) (vv_ (g_ (by omega) (by omega)) rfl (uu_ rfl ⟨(acc++[_],_),⟨by rw [List.length_append,h1];rfl,hi,yC_ h3 hy1⟩,rfl,by simp only;omega⟩)))
     |exact vv_ (N_ acc (.mk yo yk ynm yfd yad yn yvk yvi yvf ya) (by omega)) (okA _) (vv_ (g_ (by omega) (by omega)) rfl (uu_ rfl ⟨(acc++[_],i+1),⟨by rw [List.length_append,h1];rfl,hi,yC_ h3 hy⟩,rfl,by simp only;omega⟩))
   have hi:i=args.length:=(by omega);subst hi;refine vv_ (t_ acc) rfl (vv_ (r:=.int .i64 2) rfl rfl ?_))
  (refine a_ rfl rfl ?_ ?_<;>intro h<;>simp only [nc]at h<;>try omega)
  ·(exact W_ (y:=.mk _ (.mk ..) (.mk ..) _ _ _ _ _ _) rfl (λhe=>absurd he (by first|assumption|decide)))
  have ha:acc.length=2:=(by have h':(acc.length:Int)=2:=h;omega);obtain ⟨y,z,rfl⟩:∃y z,acc=[y,z]:=by
   rcases acc with _|⟨y,_|⟨z,_|⟨w,t⟩⟩⟩<;>simp at ha
   exact ⟨y,z,rfl⟩
  obtain ⟨y1,y2,y3,y4,y5,y6,y7,y8,y9,y10⟩:=y;obtain ⟨z1,z2,z3,z4,z5,z6,z7,z8,z9,z10⟩:=z;refine uI_ (ι:=Nat) (λi=>[.int .i64 (i:Int),.vsl 2 1 [.int .i64 1,.int .i64 2],T_ [.mk y1 y2 y3 y4 y5 y6 y7 y8 y9 y10,.mk z1 z2 z3 z4 z5 z6 z7 z8 z9 z10]]) (λi=>i<=2/\(1<=i->y2=1)/\(2<=i->z2=2)) (λi=>2-i) 0 ⟨by decide,λh=>by omega,λh=>by omega⟩ rfl (λs _=>by simp only [okL,okC,okA]) (λs s' _ _ h=>by simp at h;omega) (λi hi=>?_);obtain ⟨i1,i2,i3⟩:=hi;refine vv_ (r:=.int .i64 2) rfl rfl ?_
  (refine a_ rfl rfl ?_ ?_<;>intro h<;>simp only [nc]at h<;>try omega)
  .have hi2:i=0\/i=1:=(by omega);rcases hi2 with rfl|rfl
   .refine vv_ (r:=.int .i64 0) rfl rfl (vv_ (r:=.int .i64 y2) rfl rfl (vv_ (r:=.int .i64 0) rfl rfl (vv_ (r:=.int .i64 1) rfl rfl ?_)))
    (refine a_ rfl rfl ?_ ?_<;>intro h<;>simp only [nc]at h<;>try omega)
    ·(exact W_ (y:=.mk _ (.mk ..) (.mk ..) _ _ _ _ _ _) rfl (λhe=>absurd he (by first|assumption|decide)))
    exact vv_ (g_ (by omega) (by omega)) rfl (uu_ rfl ⟨1,⟨by decide,λ_=>h,λh=>by omega⟩,rfl,by decide⟩)
   .refine vv_ (r:=.int .i64 1) rfl rfl (vv_ (r:=.int .i64 z2) rfl rfl (vv_ (r:=.int .i64 1) rfl rfl (vv_ (r:=.int .i64 2) rfl rfl ?_)))
    (refine a_ rfl rfl ?_ ?_<;>intro h<;>simp only [nc]at h<;>try omega)
    ·(exact W_ (y:=.mk _ (.mk ..) (.mk ..) _ _ _ _ _ _) rfl (λhe=>absurd he (by first|assumption|decide)))
    exact vv_ (g_ (by omega) (by omega)) rfl (uu_ rfl ⟨2,⟨by decide,λ_=>i2 (by decide),λ_=>h⟩,rfl,by decide⟩)
  refine W_ (y:=.mk 4 (.mk ..) (.mk ..) _ _ _ _ _ [.mk ..,.mk ..]) rfl (λ_=>⟨.inr (.inr ⟨rfl,?_,h3,hnil⟩),λh=>by omega⟩);cases i2 (by omega);cases i3 (by omega);exact .inr (.inl ⟨rfl,rfl,rfl⟩)
 .refine uG_ zT_ rfl rfl (vv_ rfl rfl (ve_ rfl (λh=>by cases h) (λ_=>uG_ AU_ rfl rfl ?_)));repeat (refine a_ rfl rfl ?_ ?_<;>intro h<;>simp only [nc]at h<;>try omega)
  (
   refine uI_ (ι:=List GX×Nat) (λs=>[(.vsl 1 1 [.int .i64 1]),T_ s.1,.int .i64 (s.2:Int)]) (λs=>s.1.length=s.2/\s.2<=args.length/\∀a∈s.1,TX 5 a) (λs=>args.length-s.2) ([],0) ⟨rfl,Nat.zero_le _,λa ha=>(List.not_mem_nil ha).elim⟩ rfl (λs _=>by simp only [okL,okC,okA]) (λs s' _ _ h=>by simp at h;omega) (λs hs=>?_);obtain ⟨acc,i⟩:=s;obtain ⟨h1,h2,h3⟩:=hs;simp only at h1 h2 h3⊢;refine vv_ (t_ args) rfl ?_
   (refine a_ rfl rfl ?_ ?_<;>intro h<;>simp only [nc]at h<;>try omega)
   .have hi:i<args.length:=(by omega);have hld:=es_ args hi;have hz:=x4_ 5 args[i] (hW _ (List.getElem_mem hi));rcases hzz:args[i]with ⟨zo,zk,znm,zfd,zad,zn,zvk,zvi,zvf,za⟩;rw [hzz]at hld hz;refine vv_ (b8_ args hi) (kS_ okX _) (vf_ hld rfl (okX _) ?_);refine b_ hz rfl (yI_ _) ⟨?_,trivial⟩;rintro ws ⟨⟨yo,yk,ynm,yfd,yad,yn,yvk,yvi,yvf,ya⟩,e,rfl,hy⟩
    (refine a_ rfl rfl ?_ ?_<;>intro h<;>simp only [nc]at h<;>try omega)
    ·(exact W_ (y:=.mk _ (.mk ..) (.mk ..) _ _ _ _ _ _) rfl (λhe=>absurd he (by first|assumption|decide)))
    have hy:=(hy h).1;refine vv_ (r:=.int .i64 1) rfl rfl ?_
    (refine a_ rfl rfl ?_ ?_<;>intro h<;>simp only [nc]at h<;>try omega)
    all_goals first
     |(have hi2:i=0\/i=1:=by omega
       rcases hi2 with rfl|rfl;all_goals try (exfalso;omega)
       all_goals
        refine vv_ rfl rfl (vv_ rfl rfl ?_);obtain ⟨⟨yo1,yk1,ynm1,yfd1,yad1,yn1,yvk1,yvi1,yvf1,ya1⟩,hp1,hy1⟩:=yM_ _ _ hy;refine uG_ hp1 rfl (yJ_ _) ?_;refine vv_ (N_ acc (.mk yo1 yk1 ynm1 yfd1 yad1 yn1 yvk1 yvi1 yvf1 ya1) (by omega)) (okA _) (vv_ (g_ (by omega) (by omega)) rfl (uu_ rfl ⟨(acc++[_],_),⟨by rw [List.length_append,h1];rfl,hi,yC_ h3 hy1⟩,rfl,by simp only;omega⟩)))
     |exact vv_ (N_ acc (.mk yo yk ynm yfd yad yn yvk yvi yvf ya) (by omega)) (okA _) (vv_ (g_ (by omega) (by omega)) rfl (uu_ rfl ⟨(acc++[_],i+1),⟨by rw [List.length_append,h1];rfl,hi,yC_ h3 hy⟩,rfl,by simp only;omega⟩))
   have hi:i=args.length:=(by omega);subst hi;refine vv_ (t_ acc) rfl (vv_ (r:=.int .i64 1) rfl rfl ?_))
  (refine a_ rfl rfl ?_ ?_<;>intro h<;>simp only [nc]at h<;>try omega)
  ·(exact W_ (y:=.mk _ (.mk ..) (.mk ..) _ _ _ _ _ _) rfl (λhe=>absurd he (by first|assumption|decide)))
  have ha:acc.length=1:=(by have h':(acc.length:Int)=1:=h;omega);obtain ⟨y,rfl⟩:=List.length_eq_one_iff.1 ha;obtain ⟨y1,y2,y3,y4,y5,y6,y7,y8,y9,y10⟩:=y;refine uI_ (ι:=Nat) (λi=>[.int .i64 (i:Int),.vsl 1 1 [.int .i64 1],T_ [.mk y1 y2 y3 y4 y5 y6 y7 y8 y9 y10]]) (λi=>i<=1/\(1<=i->y2=1)) (λi=>1-i) 0 ⟨by decide,λh=>by omega⟩ rfl (λs _=>by simp only [okL,okC,okA]) (λs s' _ _ h=>by simp at h;omega) (λi hi=>?_);obtain ⟨i1,i2⟩:=hi;refine vv_ (r:=.int .i64 1) rfl rfl ?_
  (refine a_ rfl rfl ?_ ?_<;>intro h<;>simp only [nc]at h<;>try omega)
  .have hi2:i=0:=(by omega);subst hi2;refine vv_ (r:=.int .i64 0) rfl rfl (vv_ (r:=.int .i64 y2) rfl rfl (vv_ (r:=.int .i64 0) rfl rfl (vv_ (r:=.int .i64 1) rfl rfl ?_)))
   (refine a_ rfl rfl ?_ ?_<;>intro h<;>simp only [nc]at h<;>try omega)
   ·(exact W_ (y:=.mk _ (.mk ..) (.mk ..) _ _ _ _ _ _) rfl (λhe=>absurd he (by first|assumption|decide)))
   exact vv_ (g_ (by omega) (by omega)) rfl (uu_ rfl ⟨1,⟨by decide,λ_=>h⟩,rfl,by decide⟩)
  refine W_ (y:=.mk 4 (.mk ..) (.mk ..) _ _ _ _ _ [.mk ..]) rfl (λ_=>⟨.inr (.inr ⟨rfl,?_,h3,hnil⟩),λh=>by omega⟩);cases i2 (by omega);exact .inr (.inr ⟨rfl,rfl,rfl⟩)
theorem wu_ (l:List GS):(XOp.len 26).run Tryz.prog [P_ l]=some (.int .i64 (l.length:Int)):=by rw [wG_];exact uc_ Tryz.underlying26 l
theorem xL_ (l:List GS) {i:Nat} (h:i<l.length):(XOp.iaddr 26).run Tryz.prog [P_ l,.int .i64 (i:Int)]=some (.vptr (aR_ pY_ (l.drop i))):=by rw [wG_];exact run_iaddr_sl (e:=52) (ti:=(Tryz.prog.info? 52).get!) Tryz.underlying26 (by kernel_rfl) (by kernel_rfl) AV_ h .i64
theorem xM_ (l:List GS) {i:Nat} (h:i<l.length):(XOp.load 52).run Tryz.prog [.vptr (aR_ pY_ (l.drop i))]=some (.agg (pY_ l[i])):=
 run_load_agg (ti:=(Tryz.prog.info? 52).get!) Tryz.underlying52 rfl (by kernel_rfl) (by kernel_rfl) AV_ h
def PT (d:Nat):Prop:=∀x:GS,WS d x->CF Tryz.prog 78 ft78 (VARS::pY_ x) (RT d x)
theorem p46 (d:Nat) (hT:PT d) (l:List GS) (hl:l.length<=5) (hW:∀s∈l,WS d s):CF Tryz.prog 46 ft46 [VARS,P_ l] (RU d l):=by
 refine vh_ (c:=c46) (n:=300) (t:=t46) mo ov rfl (λY _=>vC_ _) (by kernel_rfl) λY hf hg=>?_;unfold t46;refine uI_ (ι:=List GS×Nat) (λs=>[P_ s.1,.int .i64 (s.2:Int)]) (λs=>s.1.length=s.2/\s.2<=l.length/\(∀a∈s.1,TS d a)/\LKs l s.1) (λs=>l.length-s.2) ([],0) ⟨rfl,Nat.zero_le _,λa ha=>(List.not_mem_nil ha).elim,λj _ h=>absurd h (Nat.not_lt_zero j)⟩ rfl (λs _=>by simp only [okL,okC,okB]) (λs s' _ _ h=>by simp at h;omega) (λs hs=>?_);obtain ⟨acc,i⟩:=s;obtain ⟨h1,h2,h3,h5⟩:=hs;simp only at h1 h2 h3 h5⊢;refine vv_ (wu_ l) rfl ?_
 (refine a_ rfl rfl ?_ ?_<;>intro h<;>simp only [nc]at h<;>try omega)
 .have hi:i<l.length:=(by omega);have hld:=xM_ l hi;have hz:=hT l[i] (hW _ (List.getElem_mem hi));rcases hzz:l[i]with ⟨op,⟨to1,to2,to3,to4,to5,to6,to7,to8,to9,to10⟩,⟨e1,e2,e3,e4,e5,e6,e7,e8,e9,e10⟩,thn,els,nm,kd,ad,args⟩;rw [hzz]at hld hz;refine vv_ (xL_ l hi) (kS_ okS _) (vf_ hld rfl (okS _) ?_);refine b_ hz rfl (AZ_ _) ⟨?_,trivial⟩;rintro ws ⟨⟨op',⟨so1,so2,so3,so4,so5,so6,so7,so8,so9,so10⟩,⟨f1,f2,f3,f4,f5,f6,f7,f8,f9,f10⟩,thn',els',nm',kd',ad',args'⟩,e,rfl,hy⟩
  (refine a_ rfl rfl ?_ ?_<;>intro h<;>simp only [nc]at h<;>try omega)
  exact VOK_fin rfl ⟨[],e,rfl,λhe=>absurd he h⟩;rename_i hh;refine vv_ (vI_ acc (.mk op' (.mk so1 so2 so3 so4 so5 so6 so7 so8 so9 so10) (.mk f1 f2 f3 f4 f5 f6 f7 f8 f9 f10) thn' els' nm' kd' ad' args') (by omega)) (okB _) (vv_ (g_ (by omega) (by omega)) rfl (uu_ rfl ⟨(acc++[_],i+1),⟨by rw [List.length_append,h1];rfl,hi,?_,?_⟩,rfl,by simp only;omega⟩));intro a ha;rcases List.mem_append.1 ha with ha|ha;exact h3 a ha;cases List.mem_singleton.1 ha;exact (hy (by assumption)).1;intro j g1 g2;by_cases e:j<acc.length;rw [List.getElem_append_left e];exact h5 j g1 e;have e:j=acc.length:=(by rw [List.length_append,List.length_singleton]at g2;omega);have e2:j=i:=(by omega);subst e2;rw [List.getElem_append_right (by omega)];simp only [hzz];have:∀(k:Nat) (h:k<1),k=0:=λk h=>(by omega);simp only [e,Nat.sub_self,List.getElem_singleton];exact (hy (by assumption)).2
 exact VOK_fin (by show okL [P_ acc,.int .i64 0]=true;simp only [okL,okC,okB]) ⟨acc,0,rfl,λ_=>⟨by omega,h3,h5⟩⟩
theorem zZ_ (l:List GS):okL [VARS,P_ l]=true:=by rw [a1_];simp only [okL,okC,okB];rfl
theorem p78:∀d:Nat,PT d
 |0,_,h=>h.elim
 |d+1,.mk op to e thn els nm kd ad args,hx=>by
  have ih:=p46 d (p78 d);have h1:op=1->_:=λh=>DL_ d to e thn els nm kd ad args;have h4:=DM_ d to e thn els nm kd ad args;have h2:=x4_ 5 e;obtain ⟨to1,to2,to3,to4,to5,to6,to7,to8,to9,to10⟩:=to;obtain ⟨e1,e2,e3,e4,e5,e6,e7,e8,e9,e10⟩:=e;refine vh_ (c:=c78) (n:=300) (t:=t78) mo ov rfl (λY _=>vC_ _) (by kernel_rfl) λY hf hg=>?_;unfold t78;rcases hx with ⟨rfl,a1,a2,a3,a4⟩|⟨ho,b1,b2,b3,b4,b5⟩|⟨rfl,a1,a2,a3,a4⟩
  ·(refine a_ rfl rfl ?_ ?_<;>intro h<;>simp only [nc]at h<;>try omega)
   refine b_ (h1 rfl a1 a2 a3 a4) rfl (AZ_ _) ⟨?_,trivial⟩;rintro ws ⟨⟨op',⟨so1,so2,so3,so4,so5,so6,so7,so8,so9,so10⟩,⟨f1,f2,f3,f4,f5,f6,f7,f8,f9,f10⟩,thn',els',nm',kd',ad',args'⟩,e,rfl,hy⟩;exact W_ (y:=.mk _ (.mk ..) (.mk ..) _ _ _ _ _ _) rfl hy
  ·(refine a_ rfl rfl ?_ ?_<;>intro h<;>simp only [nc]at h<;>try omega);(refine a_ rfl rfl ?_ ?_<;>intro h<;>simp only [nc]at h<;>try omega)
   refine b_ (h2 b1) rfl (yI_ _) ⟨?_,trivial⟩;rintro ws ⟨⟨y1,y2,y3,y4,y5,y6,y7,y8,y9,y10⟩,er,rfl,hy⟩
   (refine a_ rfl rfl ?_ ?_<;>intro h<;>simp only [nc]at h<;>try omega)
   ·(exact W_ (y:=.mk _ (.mk ..) (.mk ..) _ _ _ _ _ _) rfl (λhe=>absurd he (by first|assumption|decide)))
   have hy:=(hy h).1
   (refine a_ rfl rfl ?_ ?_<;>intro h<;>simp only [nc]at h<;>try omega)
   ·(exact W_ (y:=.mk _ (.mk ..) (.mk ..) _ _ _ _ _ _) rfl (λhe=>absurd he (by first|assumption|decide)))
   have hk:=h;refine b_ (ih thn b2 b4) rfl (zZ_ _) ⟨?_,trivial⟩;rintro ws ⟨thn',er1,rfl,ht⟩
   (refine a_ rfl rfl ?_ ?_<;>intro h<;>simp only [nc]at h<;>try omega)
   ·(exact W_ (y:=.mk _ (.mk ..) (.mk ..) _ _ _ _ _ _) rfl (λhe=>absurd he (by first|assumption|decide)))
   have ht:=ht h;refine b_ (ih els b3 b5) rfl (zZ_ _) ⟨?_,trivial⟩;rintro ws ⟨els',er2,rfl,hs⟩;refine W_ (y:=.mk _ (.mk ..) (.mk ..) _ _ _ _ _ _) rfl (λh0=>⟨.inr (.inl ⟨ho,hy,hk,by rw [ht.1];exact b2,by rw [(hs h0).1];exact b3,ht.2.1,(hs h0).2.1⟩),λh=>by omega⟩)
  ·(refine a_ rfl rfl ?_ ?_<;>intro h<;>simp only [nc]at h<;>try omega);(refine a_ rfl rfl ?_ ?_<;>intro h<;>simp only [nc]at h<;>try omega)
   refine b_ (h4 a1 a2 a3 a4) rfl (AZ_ _) ⟨?_,trivial⟩;rintro ws ⟨⟨op',⟨so1,so2,so3,so4,so5,so6,so7,so8,so9,so10⟩,⟨f1,f2,f3,f4,f5,f6,f7,f8,f9,f10⟩,thn',els',nm',kd',ad',args'⟩,e,rfl,hy⟩;exact W_ (y:=.mk _ (.mk ..) (.mk ..) _ _ _ _ _ _) rfl hy
end Go.Proofs.YtjconanknjgpnaaGreat.vars
set_option maxRecDepth 100000
set_option linter.unusedVariables false
set_option linter.unusedSimpArgs false
namespace Go.Proofs.YtjconanknjgpnaaGreat.vars
open Go Go.Sx
def c38:VC:=⟨⟨[],[]⟩,[(20,[none])],[],1,true,[(70,ft70)]⟩
def t38:VT:=.call 20 [] 66 [none]<|Cf 70 ft70 [64,65,J 5,J 2] 67 2<|Dn [66,71,72]
def c14:VC:=⟨⟨[],[]⟩,[],[],0,true,[]⟩
def t14:VT:=Dn []
def c19:VC:=⟨⟨[],[]⟩,[(45,[none])],[],0,true,[(46,ft46)]⟩
def t19:VT:=.call 45 [64] 66 [none]<|It Q5 [66,J 0] 67 (Dn [.nsl,.nsl,66])<|Cf 46 ft46 [64,65] 68 2<|It Q5 [71,J 0] 72 (Dn [.nsl,.nsl,71])<|Li (.app 10 88) [.vsl 0 10 [],64] 73<|Dn [73,70,J 0]
def c13:VC:=⟨⟨[],[]⟩,[],[],0,true,[(14,ft14),(38,ft38),(19,ft19)]⟩
def t13:VT:=Cf 14 ft14 [64] 65 0<|Cf 38 ft38 [64,J 0] 66 3<|Cf 19 ft19 [68,69] 71 3<|Li Qz [75,J 0] 76<|Dn [73,74,76]
def R19 (l:List UInt8):Nat->List AV->Prop:=λ_ ws=>∃(b:List GS) (n:Nat),ws=[VARS,P_ b,.int .i64 (n:Int)]/\b.length<=5/\∀s∈b,WS 3 s
theorem p38 {l:List UInt8} {a:AV} (hp:Pk l a):CF Tryz.prog 38 ft38 [a,.int .i64 0] (R19 l):=by have hA:=hp.1.ok wt_;refine vh_ (c:=c38) (n:=300) (t:=t38) mo ov rfl (λY _=>vC_ _) (by kernel_rfl) λY hf hg=>?_;unfold t38;refine uG_ k37 rfl rfl ?_;refine b_ ((pS hp 2 (by decide)).2 0 5 (Nat.zero_le _) (by decide) (by decide)) rfl (okR hA) ⟨?_,trivial⟩;rintro ws ⟨b,n,rfl,⟨h1,h2⟩,h3⟩;exact VOK_fin (by show okL [VARS,P_ b,.int .i64 (n:Int)]=true;rw [a1_];simp only [okL,okC,okB];rfl) ⟨b,n,rfl,h1,h2⟩
theorem p14 (a:AV) (h:okC a=true):CF Tryz.prog 14 ft14 [a] (λ_ ws=>ws=[]):=by refine vh_ (c:=c14) (n:=300) (t:=t14) mo ov rfl (λY _=>vC_ _) (by kernel_rfl) λY hf hg=>?_;unfold t14;exact VOK_fin rfl rfl
def RC (l:List GS):Nat->List AV->Prop:=λ_ ws=>∃(v:AV) (b:List GS) (e:Int),ws=[v,P_ b,.int .i64 e]/\okC v=true/\(e≠0->b=[])/\(e=0->v=VARS/\b.length=l.length/\(∀s∈b,TS 3 s)/\LKs l b)
theorem Aq_ {v:AV} (hv:okC v=true) (b:List GS) {x:AV} (hx:okC x=true):okL [v,P_ b,x]=true:=by simp only [okL,hv,okB,hx]
theorem p19 (b:List GS) (hl:b.length<=5) (h:∀s∈b,WS 3 s):CF Tryz.prog 19 ft19 [VARS,P_ b] (RC b):=by
 refine vh_ (c:=c19) (n:=300) (t:=t19) mo ov rfl (λY _=>vC_ _) (by kernel_rfl) λY hf hg=>?_;unfold t19;refine uG_ k35 rfl rfl ?_
 (refine a_ rfl rfl ?_ ?_<;>intro h<;>simp only [nc]at h<;>try omega)
 refine b_ (p46 3 (p78 3) b hl (by assumption)) rfl (zZ_ _) ⟨?_,trivial⟩;rintro ws ⟨b',e,rfl,hb⟩
 (refine a_ rfl rfl ?_ ?_<;>intro h<;>simp only [nc]at h<;>try omega)
 exact VOK_fin rfl ⟨.nsl,[],e,rfl,rfl,λ_=>rfl,λhe=>absurd he (by assumption)⟩;have hb:=hb (by assumption);refine vv_ (r:=VARS) rfl rfl (VOK_fin (Aq_ (v:=VARS) rfl b' (x:=.int .i64 0) rfl) ⟨VARS,b',0,rfl,rfl,λhe=>absurd rfl he,λ_=>⟨rfl,hb⟩⟩)
def R7:Nat->List AV->Prop:=λ_ ws=>∃(v:AV) (b:List GS) (e:Bool),ws=[v,P_ b,.bool e]/\okC v=true/\(e=false->b=[])/\(e=true->v=VARS/\b.length<=5/\∀s∈b,TS 3 s)
theorem p13 {l:List UInt8} {a:AV} (hp:Pk l a):CF Tryz.prog 13 ft13 [a] R7:=by have hA:=hp.1.ok wt_;refine vh_ (c:=c13) (n:=300) (t:=t13) mo ov rfl (λY _=>vC_ _) (by kernel_rfl) λY hf hg=>?_;unfold t13;refine b_ (p14 a hA) rfl (by simp only [okL,hA]) ⟨?_,trivial⟩;rintro ws rfl;refine b_ (p38 hp) rfl (by simp only [okL,hA,okC]) ⟨?_,trivial⟩;rintro ws ⟨b,n,rfl,h1,h2⟩;refine b_ (p19 b h1 h2) rfl (zZ_ _) ⟨?_,trivial⟩;rintro ws ⟨v,b',e,rfl,hv,h0,hb⟩;refine vv_ (run_eql ..) rfl (VOK_fin (Aq_ hv b' (x:=.bool _) rfl) ⟨v,b',decide (e=0),rfl,hv,λhe=>h0 (by simpa using he),λhe=>by obtain ⟨q1,q2,q3,_⟩:=hb (of_decide_eq_true he);exact ⟨q1,by omega,q3⟩⟩)
end Go.Proofs.YtjconanknjgpnaaGreat.vars
set_option maxRecDepth 100000
set_option linter.unusedVariables false
set_option linter.unusedSimpArgs false
namespace Go.Proofs.YtjconanknjgpnaaGreat.vars
open Go Go.Sx
structure GI where
 op:Int
 kd:Int
 ad:Int
 n:Int
 vk:Int
 vi:Int
 vf:Nat
def tS_ (i:GI):List AV:=[.int .i64 i.op,.int .i64 i.kd,.int .i64 i.ad,.int .i64 i.n,.int .i64 i.vk,.int .i64 i.vi,.flt .f64 i.vf]
theorem yG_ (i:GI):(tS_ i).length=7:=rfl
theorem okG (i:GI):okL (tS_ i)=true:=rfl
abbrev i_ (l:List GI):AV:=a5_ tS_ 7 l
theorem okI (l:List GI):okC (i_ l)=true:=uf_ okG l
def v_ (op kd ad n:Int):GI:=⟨op,kd,ad,n,0,0,0⟩
def kd0:List GX->Int
 |[]=>0
 |a::_=>a.kd
def v6_ (op kd ad n vk vi:Int) (vf:Nat) (args:List GX):GI:=
 if op=1 then ⟨1,vk,0,0,vk,vi,vf⟩else if op=2 then v_ 2 0 ad 0 else if op=3 then v_ 3 0 ad n else if op=17 then v_ 17 kd 0 (kd0 args)else v_ op (kd0 args) 0 0
mutual
def B_:GX->List GI
 | .mk op kd nm fd ad n vk vi vf args=>j_ args++[v6_ op kd ad n vk vi vf args]
def j_:List GX->List GI
 |[]=>[]
 |a::r=>B_ a++j_ r
end
theorem tZ_:∀a b:List GX,j_ (a++b)=j_ a++j_ b
 |[],b=>rfl
 |x::a,b=>by simp only [List.cons_append,j_,tZ_ a b,List.append_assoc]
theorem wo_ {d:Nat} {M:Nat}:∀{l:List GX},(∀x∈l,(B_ x).length<=M)->(j_ l).length<=l.length*M
 |[],_=>by simp [j_]
 |a::r,h=>by have h1:=h a (List.mem_cons_self ..);have h2:=wo_ (d:=d) (M:=M) (l:=r) λx hx=>h x (List.mem_cons_of_mem _ hx);simp only [j_,List.length_append,List.length_cons,Nat.add_mul,Nat.one_mul];omega
theorem v5_:∀{d:Nat} {x:GX},TX d x->(B_ x).length+1<=2^d
 |0,_,h=>h.elim
 |d+1,.mk op kd nm fd ad n vk vi vf args,⟨h1,_,_,_,_,h6⟩=>by have hl:args.length<=2:=(by unfold Ari at h1;omega);have hp:1<=2^d:=Nat.one_le_two_pow;have:=wo_ (d:=d) (M:=2^d-1) (l:=args) λx hx=>(by have:=v5_ (h6 x hx);omega);have h2:args.length*(2^d-1)<=2*(2^d-1):=Nat.mul_le_mul_right _ hl;simp only [B_,List.length_append,List.length_cons,List.length_nil,Nat.pow_succ];omega
def vT_:GX->List GI
 | .mk op _ _ _ ad n _ _ _ args=>if op=3 then j_ args++[v_ 19 0 ad n]else [v_ 18 0 ad 0]
mutual
def sU_:Nat->GS->List GI
 |b,.mk op to e thn els nm kd ad args=>
  if op=1 then B_ e++vT_ to
  else if op=2 then
   let c:=B_ e
   let t:=h_ (b+c.length+1) thn
   if els=[]then c++[v_ 21 0 ((b+c.length+1+t.length:Nat):Int) 0]++t
   else
    let q:=h_ (b+c.length+1+t.length+1) els
    c++[v_ 21 0 ((b+c.length+1+t.length+1:Nat):Int) 0]++t++[v_ 20 0 ((b+c.length+1+t.length+1+q.length:Nat):Int) 0]++q
  else if op=3 then
   let c:=B_ e
   let t:=h_ (b+c.length+1) thn
   c++[v_ 21 0 ((b+c.length+1+t.length+1:Nat):Int) 0]++t++[v_ 20 0 (b:Int) 0]
  else j_ args++[v_ 22 kd ad (args.length:Int)]
def h_:Nat->List GS->List GI
 |_,[]=>[]
 |b,s::r=>sU_ b s++h_ (b+(sU_ b s).length) r
end
def qn_ (x:List GS):List GI:=h_ 0 x++[v_ 23 0 0 0]
def pl (x:List GS):AV:=if (qn_ x).length<=400 then i_ (qn_ x)else .nsl
def pe (x:List GS):Int:=if (qn_ x).length<=400 then 0 else 12
def xJ_ (x:List GS):AV:=.tup [pl x,.int .i64 (pe x)]
theorem BW_ (x:List GS):okC (pl x)=true:=by unfold pl;split;exact okI _;rfl
theorem AX_ (x:List GS):aX_ (xJ_ x)=true:=by have:=p6_ (BW_ x);simp only [xJ_,aX_,cI_,this]
theorem Aj_ {x:GX} (h:TX 5 x):(B_ x).length<=31:=by have:=v5_ h;omega
theorem y4_ {l:List GX} (h:∀x∈l,TX 5 x):(j_ l).length<=l.length*31:=wo_ (d:=0) λx hx=>Aj_ (h x hx)
theorem AR_ {x:GX} (h:TX 5 x):(vT_ x).length<=63:=by
 obtain ⟨op,kd,nm,fd,ad,n,vk,vi,vf,args⟩:=x;have hal:args.length<=2:=by have:=h.1;unfold Ari at this;omega
 have h2:(j_ args).length<=args.length*31:=y4_ λx hx=>xk_ (by decide) (h.2.2.2.2.2 x hx);simp only [vT_];split;simp only [List.length_append,List.length_cons,List.length_nil];omega;simp
theorem BN_ {x:GX} (h:TX 6 x):(B_ x).length<=63:=by have:=v5_ h;omega
def szB:Nat->Nat
 |0=>0
 |d+1=>130+10*szB d
theorem vy_ {M:Nat}:∀{l:List GS} (b:Nat),(∀s∈l,∀b,(sU_ b s).length<=M)->(h_ b l).length<=l.length*M
 |[],b,_=>by simp [h_]
 |a::r,b,h=>by have h1:=h a (List.mem_cons_self ..) b;have h2:=vy_ (M:=M) (l:=r) (b+(sU_ b a).length) λx hx=>h x (List.mem_cons_of_mem _ hx);simp only [h_,List.length_append,List.length_cons,Nat.add_mul,Nat.one_mul];omega
theorem xC_:∀(d:Nat) (s:GS),TS d s->∀b,(sU_ b s).length<=szB d
 |0,_,h,_=>h.elim
 |d+1,.mk op to e thn els nm kd ad args,h,b=>by have ih:=xC_ d;simp only [sU_,szB];rcases h with ⟨rfl,a1,a2,a3,a4,_⟩|⟨ho,b1,b2,b3,b4,b5,b6⟩|⟨rfl,c1,c2,_⟩;have h1:=BN_ a3;have h2:=AR_ a1;simp only [if_pos,List.length_append];omega;have h1:=Aj_ b1;have h2:∀b,(h_ b thn).length<=thn.length*szB d:=λb=>vy_ b λs hs=>ih s (b5 s hs);have h3:∀b,(h_ b els).length<=els.length*szB d:=λb=>vy_ b λs hs=>ih s (b6 s hs);have h4:thn.length*szB d<=5*szB d:=Nat.mul_le_mul_right _ b3;have h5:els.length*szB d<=5*szB d:=Nat.mul_le_mul_right _ b4;rcases ho with rfl|rfl;rw [if_neg (by decide),if_pos rfl];have q1:=h2 (b+(B_ e).length+1);have q2:=h3 (b+(B_ e).length+1+(h_ (b+(B_ e).length+1) thn).length+1);split;simp only [List.length_append,List.length_cons,List.length_nil];omega;simp only [List.length_append,List.length_cons,List.length_nil];omega;rw [if_neg (by decide),if_neg (by decide),if_pos rfl];have q1:=h2 (b+(B_ e).length+1);simp only [List.length_append,List.length_cons,List.length_nil];omega;have hal:args.length<=2:=(by rcases c1 with ⟨_,_,c1⟩|⟨_,_,c1⟩|⟨_,_,c1⟩<;>(have:=congrArg List.length c1;simp at this;omega));have h1:=y4_ c2;rw [if_neg (by decide),if_neg (by decide),if_neg (by decide)];simp only [List.length_append,List.length_cons,List.length_nil];omega
theorem AQ_ {l:List GS} (h5:l.length<=5) (h:∀s∈l,TS 3 s) (b:Nat):(h_ b l).length<=80000:=by have h1:(h_ b l).length<=l.length*szB 3:=vy_ b λs hs=>xC_ 3 s (h s hs);have h2:l.length*szB 3<=5*szB 3:=Nat.mul_le_mul_right _ h5;have h3:szB 3=14430:=rfl;omega
end Go.Proofs.YtjconanknjgpnaaGreat.vars
set_option linter.unusedVariables false
set_option linter.unusedSimpArgs false
namespace Go.Proofs.YtjconanknjgpnaaGreat.vars
open Go Go.Sx
structure FV where
 k:Int
 i:Int
 f:Option Nat
def FV.z:FV:=⟨0,0,some 0⟩
def d_ (v:FV):List AV:=[.int .i64 v.k,.int .i64 v.i,fv v.f]
theorem us_ (v:FV):(d_ v).length=3:=rfl
theorem okV (v:FV):okL (d_ v)=true:=by simp only [d_,okL,okC,vM_]
def InK (k i:Int):Prop:=(k=1/\0<=i/\i<=1)\/(k=2/\ -32768<=i/\i<=32767)\/(k=3/\ -2147483648<=i/\i<=2147483647)\/(k=4/\ -9223372036854775808<=i/\i<=9223372036854775807)\/(k=5/\i=0)
def TV (v:FV):Prop:=InK v.k v.i/\(v.k≠5->v.f=some 0)
theorem InK.kd {k i:Int} (h:InK k i):1<=k/\k<=5:=by rcases h with h|h|h|h|h<;>omega
theorem InK.i64 {k i:Int} (h:InK k i): -9223372036854775808<=i/\i<=9223372036854775807:=by rcases h with h|h|h|h|h<;>omega
def x_ (k i:Int):Int:=if k=1 then (if i=0 then 0 else 1)else if k=2 then IntKind.i16.wrap i else if k=3 then IntKind.i32.wrap i else if k=4 then i else 0
theorem xh_ (i:Int): -32768<=IntKind.i16.wrap i/\IntKind.i16.wrap i<=32767:=by simp [IntKind.wrap,IntKind.bits,IntKind.signed];omega
theorem xi_ (i:Int): -2147483648<=IntKind.i32.wrap i/\IntKind.i32.wrap i<=2147483647:=by simp [IntKind.wrap,IntKind.bits,IntKind.signed];omega
theorem xj_ (i:Int): -9223372036854775808<=IntKind.i64.wrap i/\IntKind.i64.wrap i<=9223372036854775807:=by simp [IntKind.wrap,IntKind.bits,IntKind.signed];omega
theorem yT_ {i:Int} (h1: -32768<=i) (h2:i<=32767):IntKind.i16.wrap i=i:=by simp [IntKind.wrap,IntKind.bits,IntKind.signed];omega
theorem yU_ {i:Int} (h1: -2147483648<=i) (h2:i<=2147483647):IntKind.i32.wrap i=i:=by simp [IntKind.wrap,IntKind.bits,IntKind.signed];omega
theorem wY_ {k i:Int} (h1:1<=k) (h2:k<=4) (h3: -9223372036854775808<=i) (h4:i<=9223372036854775807):InK k (x_ k i):=by have a:=xh_ i;have b:=xi_ i;unfold InK x_;rcases (by omega:k=1\/k=2\/k=3\/k=4)with rfl|rfl|rfl|rfl;simp only [if_true];split;exact .inl ⟨trivial,by decide,by decide⟩;exact .inl ⟨trivial,by decide,by decide⟩;exact .inr (.inl ⟨rfl,a⟩);exact .inr (.inr (.inl ⟨rfl,b⟩));exact .inr (.inr (.inr (.inl ⟨rfl,h3,h4⟩)))
theorem S_ {k i:Int} (h:InK k i) (hk:k≠5):x_ k i=i:=by
 unfold x_;rcases h with ⟨rfl,h,h'⟩|⟨rfl,h,h'⟩|⟨rfl,h,h'⟩|⟨rfl,h,h'⟩|⟨rfl,h⟩
 .simp only [if_true];split<;>omega
 simp [yT_ h h'];simp [yU_ h h'];simp;exact absurd rfl hk
def tI (b:Bool):Int:=if b=true then 1 else 0
def w64 (i:Int):Int:=IntKind.i64.wrap i
def Z_ (op k a b:Int):Int:=
 if op=4 then x_ k (w64 (a+b))else if op=5 then x_ k (w64 (a-b))else if op=6 then x_ k (w64 (a*b))else if op=7 then x_ k (w64 (a.tdiv b))else if op=8 then x_ k (a.tmod b)
 else if op=9 then tI (decide (a=b))else if op=10 then tI (decide (¬a=b))else if op=11 then tI (decide (a<b))else if op=12 then tI (decide (a<=b))
 else if op=13 then tI (decide (¬a=0)&&decide (¬b=0))else if op=14 then tI (decide (¬a=0)||decide (¬b=0))else if op=15 then tI (decide (a=0))else x_ k (w64 (0-a))
def F_ (op b:Int):Int:=if (op=7\/op=8)/\b=0 then 5 else 0
def OpK (op k:Int):Prop:=4<=op/\op<=16/\1<=k/\k<=5/\(op<=8\/op=16\/op=11\/op=12->k≠1)/\(op=8->k≠5)/\(13<=op/\op<=15->k=1)
theorem wk_ (b:Bool):InK 1 (tI b):=by cases b;exact .inl ⟨rfl,by decide,by decide⟩;exact .inl ⟨rfl,by decide,by decide⟩
theorem yA_ {k a b:Int} (h:InK k a) (hk:k≠5) (hk1:k≠1):InK k (a.tmod b):=by
 have h1:(a.tmod b).natAbs<=a.natAbs:=by rw [Int.natAbs_tmod];exact Nat.mod_le _ _
 have h2:0<=a->0<=a.tmod b:=λh=>Int.tmod_nonneg _ h;have h3:¬(a<0/\0<a.tmod b):=λ⟨p,q⟩=>by have:=Int.tmod_nonneg (a:= -a) b (by omega);rw [Int.neg_tmod]at this;omega
 rcases h with h|h|h|h|h;omega;exact .inr (.inl (by omega));exact .inr (.inr (.inl (by omega)));exact .inr (.inr (.inr (.inl (by omega))));omega
theorem zS_ {op k a b:Int} (h:OpK op k) (hk:k≠5) (ha:InK k a):InK (if 9<=op/\op<=12 then 1 else k) (Z_ op k a b):=by obtain ⟨h1,h2,h3,h4,h5,h6,h7⟩:=h;have hw:∀i,InK k (x_ k (w64 i)):=λi=>wY_ h3 (by omega) (xj_ i).1 (xj_ i).2;unfold Z_;by_cases c4:op=4;subst c4;simp only [if_true,if_false,show ¬((9:Int)<=4/\(4:Int)<=12) by omega];exact hw _;rw [if_neg c4];by_cases c5:op=5;subst c5;simp only [if_true,if_false,show ¬((9:Int)<=5/\(5:Int)<=12) by omega];exact hw _;rw [if_neg c5];by_cases c6:op=6;subst c6;simp only [if_true,if_false,show ¬((9:Int)<=6/\(6:Int)<=12) by omega];exact hw _;rw [if_neg c6];by_cases c7:op=7;subst c7;simp only [if_true,if_false,show ¬((9:Int)<=7/\(7:Int)<=12) by omega];exact hw _;rw [if_neg c7];by_cases c8:op=8;subst c8;simp only [if_true,if_false,show ¬((9:Int)<=8/\(8:Int)<=12) by omega];have:=yA_ (b:=b) ha hk (h5 (by omega));rw [S_ this hk];exact this;rw [if_neg c8];by_cases c9:op=9;subst c9;simp only [if_true,show ((9:Int)<=9/\(9:Int)<=12) by omega];exact wk_ _;rw [if_neg c9];by_cases c10:op=10;subst c10;simp only [if_true,show ((9:Int)<=10/\(10:Int)<=12) by omega];exact wk_ _;rw [if_neg c10];by_cases c11:op=11;subst c11;simp only [if_true,show ((9:Int)<=11/\(11:Int)<=12) by omega];exact wk_ _;rw [if_neg c11];by_cases c12:op=12;subst c12;simp only [if_true,show ((9:Int)<=12/\(12:Int)<=12) by omega];exact wk_ _;rw [if_neg c12,if_neg (show ¬(9<=op/\op<=12) by omega)];by_cases c13:op=13;rw [if_pos c13,h7 (by omega)];exact wk_ _;rw [if_neg c13];by_cases c14:op=14;rw [if_pos c14,h7 (by omega)];exact wk_ _;rw [if_neg c14];by_cases c15:op=15;rw [if_pos c15,h7 (by omega)];exact wk_ _;rw [if_neg c15];exact hw _
theorem z9_ (a:Int):a.tdiv (-1)= -a:=by rw [Int.tdiv_neg,Int.tdiv_one]
theorem Ab_ (a:Int):a.tmod (-1)=0:=by rw [Int.tmod_neg,Int.tmod_one]
theorem z8_ {k a b:Int} (h:InK k a) (hk:k≠5) (hk1:k≠1) (hb:b≠ -1):InK k (a.tdiv b):=by
 have h1:(a.tdiv b).natAbs<=a.natAbs:=by rw [Int.natAbs_tdiv];exact Nat.div_le_self _ _
 have key:a.tdiv b= -a->0<=a\/a.tdiv b=a:=λe=>by
  by_cases ha:0<=a;exact .inl ha
  .exfalso;have h2:(a.tdiv b).natAbs=a.natAbs:=(by rw [e,Int.natAbs_neg]);rw [Int.natAbs_tdiv]at h2;have h3:b.natAbs=1:=by have h4:0<a.natAbs:=(by omega);rcases Nat.lt_trichotomy b.natAbs 1 with h5|h5|h5;have:b.natAbs=0:=(by omega);rw [this]at h2;have:a.natAbs.div 0=0:=Nat.div_zero _;omega;exact h5;have:a.natAbs.div b.natAbs<a.natAbs:=Nat.div_lt_self h4 h5;omega
   have h6:b=1:=(by omega);rw [h6,Int.tdiv_one]at e;omega
 rcases h with h|h|h|h|h;omega;refine .inr (.inl ⟨h.1,?_⟩);have:a.tdiv b≠ -a\/0<=a\/a.tdiv b=a:=(by by_cases e:a.tdiv b= -a;exact .inr (key e);exact .inl e);omega;refine .inr (.inr (.inl ⟨h.1,?_⟩));have:a.tdiv b≠ -a\/0<=a\/a.tdiv b=a:=(by by_cases e:a.tdiv b= -a;exact .inr (key e);exact .inl e);omega;refine .inr (.inr (.inr (.inl ⟨h.1,?_⟩)));have:a.tdiv b≠ -a\/0<=a\/a.tdiv b=a:=(by by_cases e:a.tdiv b= -a;exact .inr (key e);exact .inl e);omega;omega
def B2_ (op:Int) (o:Option Ordering):Bool:=if op=9 then o==some .eq else if op=10 then o !=some .eq else if op=11 then o==some .lt else o==some .lt||o==some .eq
def wb_ (op:Int) (a b:Option Nat):FV:=
 if op=4 then ⟨5,0,fI_ FloatKind.f64.format.add a b⟩else if op=5 then ⟨5,0,fI_ FloatKind.f64.format.sub a b⟩else if op=6 then ⟨5,0,fI_ FloatKind.f64.format.mul a b⟩else if op=7 then ⟨5,0,fI_ FloatKind.f64.format.div a b⟩
 else if op=16 then ⟨5,0,a.map (Op.negFloat .f64)⟩else ⟨1,tI (B2_ op (ordF a b)),some 0⟩
def opV (op k:Int) (a b:FV):FV:=if k=5 then wb_ op a.f b.f else ⟨if 9<=op/\op<=12 then 1 else k,Z_ op k a.i b.i,some 0⟩
def opE (op k:Int) (b:FV):Int:=if k=5 then 0 else F_ op b.i
theorem zq_ (op:Int) (a b:Option Nat):TV (wb_ op a b):=by
 have r:∀f,TV ⟨5,0,f⟩:=λf=>⟨.inr (.inr (.inr (.inr ⟨rfl,rfl⟩))),λh=>absurd rfl h⟩;unfold wb_;split;· exact r _
 split;· exact r _
 split;· exact r _
 split;· exact r _
 split;· exact r _
 exact ⟨wk_ _,λ_=>rfl⟩
theorem A0_ {op k:Int} {a b:FV} (h:OpK op k) (ha:TV a) (hk:a.k=k):TV (opV op k a b):=by unfold opV;split;exact zq_ ..;rename_i h5;exact ⟨zS_ h h5 (hk▸ha.1),λ_=>rfl⟩
theorem B1_ {op k:Int} {a b:FV} (h:OpK op k):(opV op k a b).k=if (9<=op/\op<=12)then 1 else k:=by
 obtain ⟨h1,h2,h3,h4,h5,h6,h7⟩:=h;unfold opV;split
 .rename_i e;unfold wb_;split;· rw [if_neg (by omega),e]
  split;· rw [if_neg (by omega),e]
  split;· rw [if_neg (by omega),e]
  split;· rw [if_neg (by omega),e]
  split;· rw [if_neg (by omega),e]
  rw [if_pos (by omega)]
 rfl
def hiK (k:Int):Nat:=if k=2 then 4674736413210574848 else if k=3 then 4746794007248502784 else 4890909195324358656
def loK (k:Int):Nat:=if k=2 then 13898108450065350656 else if k=3 then 13970166044103278592 else 14114281232179134464
def A_ (k:Int) (f:Option Nat):Option Int:=
 if nX_ f=true then none else if ordF (ui_ f) (some (loK k))=some .lt then none else if ordF (ui_ f) (some (hiK k))=some .lt then se_ (ui_ f)else none
theorem xg_ {k:Int} {f:Option Nat} {n:Int} (hk:2<=k/\k<=4) (h:A_ k f=some n):InK k n:=by
 unfold A_ at h;split at h;· cases h
 split at h;· cases h
 rename_i h1;split at h;rename_i h2;rcases (by omega:k=2\/k=3\/k=4)with rfl|rfl|rfl;obtain ⟨m,e,a,b⟩:=tg_ (k:=15) (j:= -37) rfl (by kernel_rfl) (by kernel_rfl) h1 h2;rw [h]at e;cases e;exact .inr (.inl ⟨rfl,by omega,by omega⟩);obtain ⟨m,e,a,b⟩:=tg_ (k:=31) (j:= -21) rfl (by kernel_rfl) (by kernel_rfl) h1 h2;rw [h]at e;cases e;exact .inr (.inr (.inl ⟨rfl,by omega,by omega⟩));obtain ⟨m,e,a,b⟩:=tg_ (k:=63) (j:=11) rfl (by kernel_rfl) (by kernel_rfl) h1 h2;rw [h]at e;cases e;exact .inr (.inr (.inr (.inl ⟨rfl,by omega,by omega⟩)));cases h
def w_ (kd:Int) (v:FV):Except Int FV:=
 if kd=5 then (if v.k=5 then .ok v else .ok ⟨5,0,some (FloatKind.f64.nearest v.i)⟩)
 else if v.k=5 then (match A_ kd v.f with|some n=>.ok ⟨kd,n,some 0⟩|none=>.error 7)
 else .ok ⟨kd,x_ kd v.i,some 0⟩
theorem yX_ {kd:Int} {v w:FV} (hk:2<=kd/\kd<=5) (hv:TV v) (h:w_ kd v=.ok w):TV w/\w.k=kd:=by unfold w_ at h;split at h;rename_i e;split at h;rename_i e';cases h;exact ⟨hv,by omega⟩;cases h;exact ⟨⟨.inr (.inr (.inr (.inr ⟨rfl,rfl⟩))),λh=>absurd rfl h⟩,e.symm⟩;split at h;split at h;rename_i n hn;cases h;exact ⟨⟨xg_ (k:=kd) (by omega) hn,λ_=>rfl⟩,rfl⟩;cases h;cases h;have:=hv.1.i64;exact ⟨⟨wY_ (k:=kd) (by omega) (by omega) this.1 this.2,λ_=>rfl⟩,rfl⟩
end Go.Proofs.YtjconanknjgpnaaGreat.vars
set_option maxRecDepth 100000
set_option linter.unusedVariables false
set_option linter.unusedSimpArgs false
namespace Go.Proofs.YtjconanknjgpnaaGreat.vars
open Go Go.Sx
def Di_:VC:=⟨⟨[],[]⟩,[],[],0,true,[]⟩
def Cy_:VT:=.ite 64 (.done (J 1))<|.done (J 0)
def Dj_:VC:=⟨⟨[],[]⟩,[],[],0,true,[]⟩
def Cz_:VT:=Iq 64 9 67 (Li Qq [65,66] 68<|.done (.tup [.bool true,68]))<|Iq 64 10 68 (Li U0 [65,66] 69<|.done (.tup [.bool true,69]))<|Iq 64 11 69 (Li U7 [65,66] 70<|.done (.tup [.bool true,70]))<|Iq 64 12 70 (Li Zr [65,66] 71<|.done (.tup [.bool true,71]))<|.done (.tup [.bool false,.bool false])
def Dl_:VC:=⟨⟨[],[]⟩,[(160,[none])],[],0,true,[]⟩
def CB_:VT:=Iq 64 13 67 (It Q8 [65,J 0] 68 (Li Q8 [66,J 0] 69<|.call 160 [69] 70 [none]<|.done (70))<|.call 160 [.bool false] 69 [none]<|.done (69))<|Iq 64 14 68 (It Q8 [65,J 0] 69 (.call 160 [.bool true] 70 [none]<|.done (70))<|Li Q8 [66,J 0] 70<|.call 160 [70] 71 [none]<|.done (71))<|Iq 64 15 69 (Li Qt [65,J 0] 70<|.call 160 [70] 71 [none]<|.done (71))<|.done (J 0)
def C9_:VC:=⟨⟨[],[]⟩,[(160,[none])],[],0,true,[]⟩
def Co_:VT:=Iq 64 1 66 (Li Q8 [65,J 0] 67<|.call 160 [67] 68 [none]<|.done (68))<|Iq 64 2 67 (Li (.conv 2 206) [65] 68<|Li (.conv 206 2) [68] 69<|.done (69))<|Iq 64 3 68 (Li (.conv 2 21) [65] 69<|Li (.conv 21 2) [69] 70<|.done (70))<|Iq 64 4 69 (.done (65))<|.done (J 0)
def Dk_:VC:=⟨⟨[],[]⟩,[],[],0,true,[]⟩
def CA_:VT:=Dn [64]
def Dp_:VC:=⟨⟨[],[]⟩,[],[],0,true,[(163,ft163)]⟩
def CF_:VT:=It Qt [66,J 0] 67 (Cf 163 ft163 [J 5] 68 1<|.done (.tup [J 1,69]))<|Iq 64 8 68 (Li Zk [65,66] 69<|Dn [69])<|Li U1 [65,66] 69<|Dn [69]
def Dm_:VC:=⟨⟨[],[]⟩,[],[],0,true,[(163,ft163),(179,yh_)]⟩
def CC_:VT:=Iq 64 4 67 (Li Zs [65,66] 68<|Dn [68])<|Iq 64 5 68 (Li Zf [65,66] 69<|Dn [69])<|Iq 64 6 69 (Li U8 [65,66] 70<|Dn [70])<|Iq 64 16 70 (Li Zb [65] 71<|Dn [71])<|Iq 64 7 71 (.callF 179 yh_ [64,65,66] 72 (.cons 1 (Dn [75]) (.cons 1 (.done (.tup [J 1,75])) .nil)))<|Iq 64 8 72 (.callF 179 yh_ [64,65,66] 73 (.cons 1 (Dn [76]) (.cons 1 (.done (.tup [J 1,76])) .nil)))<|Cf 163 ft163 [J 4] 73 1<|.done (.tup [J 1,74])
def AC_:VC:=⟨⟨[],[]⟩,[(162,[none,none]),(164,[none]),(160,[none]),(123,[none])],[],0,true,[(163,ft163),(165,ft165)]⟩
def zx_:VT:=.call 162 [64,65,66] 67 [none,none]<|Iq 64 13 69 (.call 164 [64,65,66] 70 [none]<|.done (.tup [70,J 0]))<|Iq 64 14 70 (.call 164 [64,65,66] 71 [none]<|.done (.tup [71,J 0]))<|Iq 64 15 71 (.call 164 [64,65,66] 72 [none]<|.done (.tup [72,J 0]))<|It Q6 [64,J 9] 72 (It Q6 [64,J 10] 73 (Cf 163 ft163 [J 4] 74 1<|Dn [75])<|.ite 67 (.call 160 [68] 74 [none]<|.done (.tup [74,J 0]))<|.callF 165 ft165 [64,65,66] 74 (.cons 1 (.call 123 [J 1,77] 78 [none]<|.done (.tup [78,J 0])) (.cons 1 (Dn [77]) .nil)))<|.ite 67 (.call 160 [68] 73 [none]<|.done (.tup [73,J 0]))<|.callF 165 ft165 [64,65,66] 73 (.cons 1 (.call 123 [J 1,76] 77 [none]<|.done (.tup [77,J 0])) (.cons 1 (Dn [76]) .nil))
def AD_:VC:=⟨⟨[],[]⟩,[(162,[none,none]),(164,[none]),(160,[none]),(123,[none])],[],0,true,[(163,ft163),(165,ft165)]⟩
def zy_:VT:=.call 162 [64,65,66] 67 [none,none]<|.ite 67 (.call 160 [68] 69 [none]<|.done (.tup [69,J 0]))<|.callF 165 ft165 [64,65,66] 69 (.cons 1 (.call 123 [J 2,72] 73 [none]<|.done (.tup [73,J 0])) (.cons 1 (Dn [72]) .nil))
def AE_:VC:=⟨⟨[],[]⟩,[(162,[none,none]),(164,[none]),(160,[none]),(123,[none])],[],0,true,[(163,ft163),(165,ft165)]⟩
def zz_:VT:=.call 162 [64,65,66] 67 [none,none]<|.ite 67 (.call 160 [68] 69 [none]<|.done (.tup [69,J 0]))<|.callF 165 ft165 [64,65,66] 69 (.cons 1 (.call 123 [J 3,72] 73 [none]<|.done (.tup [73,J 0])) (.cons 1 (Dn [72]) .nil))
def AF_:VC:=⟨⟨[],[]⟩,[(162,[none,none]),(164,[none]),(160,[none]),(123,[none])],[],0,true,[(163,ft163),(165,ft165)]⟩
def zA_:VT:=.call 162 [64,65,66] 67 [none,none]<|.ite 67 (.call 160 [68] 69 [none]<|.done (.tup [69,J 0]))<|.callF 165 ft165 [64,65,66] 69 (.cons 1 (.call 123 [J 4,72] 73 [none]<|.done (.tup [73,J 0])) (.cons 1 (Dn [72]) .nil))
theorem wR_ (b:Bool):kH_ Tryz.prog 160 [.bool b] (.int .i64 (tI b)):=by refine t6_ (sh:=[none]) (ls:=[.bool b]) (c:=Di_) (n:=300) (t:=Cy_) mo ov rfl rfl rfl (λY _=>vC_ _) rfl (by kernel_rfl) λY hf hg=>?_;unfold Cy_;cases b;exact ve_ (t:=false) rfl (λh=>by cases h) (λh=>uH_ rfl);exact ve_ (t:=true) rfl (λh=>uH_ rfl) (λh=>by cases h)
def xz_ (op a b:Int):Bool:=if op=9 then decide (a=b)else if op=10 then decide (¬a=b)else if op=11 then decide (a<b)else if op=12 then decide (a<=b)else false
theorem z0_ (op a b:Int):kH_ Tryz.prog 162 [.int .i64 op,.int .i64 a,.int .i64 b] (.tup [.bool (decide (9<=op/\op<=12)),.bool (xz_ op a b)]):=by
 refine t6_ (sh:=[none,none,none]) (ls:=[.int .i64 op,.int .i64 a,.int .i64 b]) (c:=Dj_) (n:=300) (t:=Cz_) mo ov rfl rfl rfl (λY _=>vC_ _) rfl (by kernel_rfl) λY hf hg=>?_;unfold Cz_
 (refine a_ rfl rfl ?_ ?_<;>intro h<;>simp only [nc]at h<;>try omega)
 subst h;exact vv_ (run_eql ..) rfl (uH_ (by rfl))
 (refine a_ rfl rfl ?_ ?_<;>intro h<;>simp only [nc]at h<;>try omega)
 subst h;exact vv_ (run_neq ..) rfl (uH_ (by rw [show xz_ 10 a b=decide (¬a=b) from rfl];simp;rfl))
 (refine a_ rfl rfl ?_ ?_<;>intro h<;>simp only [nc]at h<;>try omega)
 subst h;exact vv_ (run_lss ..) rfl (uH_ (by rfl))
 (refine a_ rfl rfl ?_ ?_<;>intro h<;>simp only [nc]at h<;>try omega)
 subst h;exact vv_ (run_leq ..) rfl (uH_ (by rfl));refine uH_ ?_;have e1:decide (9<=op/\op<=12)=false:=decide_eq_false (by omega);have e2:xz_ op a b=false:=by unfold xz_;simp only [*,if_false]
 rw [e1,e2];rfl
theorem A5_ (op a b:Int) (ho:13<=op/\op<=15):kH_ Tryz.prog 164 [.int .i64 op,.int .i64 a,.int .i64 b] (.int .i64 (Z_ op 1 a b)):=by
 refine t6_ (sh:=[none,none,none]) (ls:=[.int .i64 op,.int .i64 a,.int .i64 b]) (c:=Dl_) (n:=300) (t:=CB_) mo ov rfl rfl rfl (λY _=>vC_ _) rfl (by kernel_rfl) λY hf hg=>?_;unfold CB_
 (refine a_ rfl rfl ?_ ?_<;>intro h<;>simp only [nc]at h<;>try omega)
 .subst h;have e:Z_ 13 1 a b=tI (decide (¬a=0)&&decide (¬b=0)):=rfl;rw [e]
  (refine a_ rfl rfl ?_ ?_<;>intro h<;>simp only [nc]at h<;>try omega)
  .refine vv_ (run_neq ..) rfl (uG_ (wR_ _) rfl rfl (uH_ ?_));rw [decide_eq_true h,Bool.true_and];by_cases hb:b=0<;>simp [hb]<;>rfl
  rw [decide_eq_false (by omega),Bool.false_and];exact uG_ (wR_ false) rfl rfl (uH_ rfl)
 (refine a_ rfl rfl ?_ ?_<;>intro h<;>simp only [nc]at h<;>try omega)
 .subst h;have e:Z_ 14 1 a b=tI (decide (¬a=0)||decide (¬b=0)):=rfl;rw [e]
  (refine a_ rfl rfl ?_ ?_<;>intro h<;>simp only [nc]at h<;>try omega)
  rw [decide_eq_true h,Bool.true_or];exact uG_ (wR_ true) rfl rfl (uH_ rfl)
  .refine vv_ (run_neq ..) rfl (uG_ (wR_ _) rfl rfl (uH_ ?_));rw [decide_eq_false (p:=¬a=0) (by omega),Bool.false_or];by_cases hb:b=0<;>simp [hb]<;>rfl
 (refine a_ rfl rfl ?_ ?_<;>intro h<;>simp only [nc]at h<;>try omega)
 subst h;exact vv_ (run_eql ..) rfl (uG_ (wR_ _) rfl rfl (uH_ rfl))
theorem DC_ (i:Int):(XOp.conv 2 206).run Tryz.prog [.int .i64 i]=some (.int .i16 (IntKind.i16.wrap i)):=tD_ Tryz.underlying2 Tryz.underlying206 i
theorem Bz_ (i:Int):(XOp.conv 206 2).run Tryz.prog [.int .i16 (IntKind.i16.wrap i)]=some (.int .i64 (IntKind.i16.wrap i)):=by have:=xh_ i;rw [tD_ Tryz.underlying206 Tryz.underlying2,vK_ (by omega) (by omega)]
theorem DD_ (i:Int):(XOp.conv 2 21).run Tryz.prog [.int .i64 i]=some (.int .i32 (IntKind.i32.wrap i)):=tD_ Tryz.underlying2 Tryz.underlying21 i
theorem BB_ (i:Int):(XOp.conv 21 2).run Tryz.prog [.int .i32 (IntKind.i32.wrap i)]=some (.int .i64 (IntKind.i32.wrap i)):=by have:=xi_ i;rw [tD_ Tryz.underlying21 Tryz.underlying2,vK_ (by omega) (by omega)]
theorem w6_ (k i:Int):kH_ Tryz.prog 123 [.int .i64 k,.int .i64 i] (.int .i64 (x_ k i)):=by
 refine t6_ (sh:=[none,none]) (ls:=[.int .i64 k,.int .i64 i]) (c:=C9_) (n:=300) (t:=Co_) mo ov rfl rfl rfl (λY _=>vC_ _) rfl (by kernel_rfl) λY hf hg=>?_;unfold Co_
 (refine a_ rfl rfl ?_ ?_<;>intro h<;>simp only [nc]at h<;>try omega)
 .subst h;refine vv_ (run_neq ..) rfl (uG_ (wR_ _) rfl rfl (uH_ ?_));by_cases hi:i=0<;>simp [hi,x_,tI]<;>rfl
 (refine a_ rfl rfl ?_ ?_<;>intro h<;>simp only [nc]at h<;>try omega)
 subst h;exact vv_ (DC_ i) rfl (vv_ (Bz_ i) rfl (uH_ rfl))
 (refine a_ rfl rfl ?_ ?_<;>intro h<;>simp only [nc]at h<;>try omega)
 subst h;exact vv_ (DD_ i) rfl (vv_ (BB_ i) rfl (uH_ rfl))
 (refine a_ rfl rfl ?_ ?_<;>intro h<;>simp only [nc]at h<;>try omega)
 subst h;exact uH_ rfl;refine uH_ ?_;have:x_ k i=0:=(by unfold x_;simp only [*,if_false]);rw [this];rfl
def RF (e:Int):Nat->List AV->Prop:=λj ws=>j=0/\ws=[.int .i64 e]
theorem DR_ (e:Int):CF Tryz.prog 163 ft163 [.int .i64 e] (RF e):=by refine vh_ (c:=Dk_) (n:=300) (t:=CA_) mo ov rfl (λY _=>vC_ _) (by kernel_rfl) λY hf hg=>?_;unfold CA_;exact VOK_fin rfl ⟨rfl,rfl⟩
def ofV (op a b:Int):Int:=if op=4 then w64 (a+b)else if op=5 then w64 (a-b)else if op=6 then w64 (a*b)else if op=16 then w64 (0-a)else if op=7 then w64 (a.tdiv b)else a.tmod b
theorem vD_ {op k a b:Int} (h:(4<=op/\op<=8)\/op=16):Z_ op k a b=x_ k (ofV op a b):=by rcases (by omega:op=4\/op=5\/op=6\/op=7\/op=8\/op=16)with rfl|rfl|rfl|rfl|rfl|rfl<;>rfl
def RO (op a b:Int):Nat->List AV->Prop:=λj ws=>(j=0/\F_ op b=0/\ws=[.int .i64 (ofV op a b)])\/(j=1/\F_ op b=5/\ws=[.int .i64 5])
theorem B8_ (op a b:Int) (ho:op=7\/op=8):CF Tryz.prog 179 yh_ [.int .i64 op,.int .i64 a,.int .i64 b] (RO op a b):=by
 refine vh_ (c:=Dp_) (n:=300) (t:=CF_) mo ov rfl (λY _=>vC_ _) (by kernel_rfl) λY hf hg=>?_;unfold CF_
 (refine a_ rfl rfl ?_ ?_<;>intro h<;>simp only [nc]at h<;>try omega)
 subst h;refine uv_ (DR_ 5) rfl ⟨?_,trivial⟩;rintro ws ⟨_,rfl⟩;refine VOK_fin rfl (.inr ⟨rfl,?_,rfl⟩);unfold F_;rw [if_pos ⟨ho,rfl⟩];have hb:F_ op b=0:=by unfold F_;rw [if_neg (by omega)]
 (refine a_ rfl rfl ?_ ?_<;>intro h<;>simp only [nc]at h<;>try omega)
 subst h;exact vv_ (u4_ (by omega) ..) rfl (VOK_fin rfl (.inl ⟨rfl,hb,rfl⟩));obtain rfl:op=7:=(by omega);exact vv_ (vr_ (by omega) ..) rfl (VOK_fin rfl (.inl ⟨rfl,hb,rfl⟩))
theorem A6_ (op a b:Int) (ho:(4<=op/\op<=8)\/op=16):CF Tryz.prog 165 ft165 [.int .i64 op,.int .i64 a,.int .i64 b] (RO op a b):=by
 refine vh_ (c:=Dm_) (n:=300) (t:=CC_) mo ov rfl (λY _=>vC_ _) (by kernel_rfl) λY hf hg=>?_;unfold CC_
 (refine a_ rfl rfl ?_ ?_<;>intro h<;>simp only [nc]at h<;>try omega)
 subst h;exact vv_ (run_add ..) rfl (VOK_fin rfl (.inl ⟨rfl,rfl,rfl⟩))
 (refine a_ rfl rfl ?_ ?_<;>intro h<;>simp only [nc]at h<;>try omega)
 subst h;exact vv_ (run_sub ..) rfl (VOK_fin rfl (.inl ⟨rfl,rfl,rfl⟩))
 (refine a_ rfl rfl ?_ ?_<;>intro h<;>simp only [nc]at h<;>try omega)
 subst h;exact vv_ (run_mul ..) rfl (VOK_fin rfl (.inl ⟨rfl,rfl,rfl⟩))
 (refine a_ rfl rfl ?_ ?_<;>intro h<;>simp only [nc]at h<;>try omega)
 subst h;exact vv_ (vo_ ..) rfl (VOK_fin rfl (.inl ⟨rfl,rfl,rfl⟩))
 (refine a_ rfl rfl ?_ ?_<;>intro h<;>simp only [nc]at h<;>try omega)
 subst h;refine uv_ (B8_ 7 a b (.inl rfl)) rfl ⟨?_,?_,trivial⟩;rintro ws (⟨_,h1,rfl⟩|⟨h0,_⟩);exact VOK_fin rfl (.inl ⟨rfl,h1,rfl⟩);cases h0;rintro ws (⟨h0,_⟩|⟨_,h1,rfl⟩);cases h0;exact VOK_fin rfl (.inr ⟨rfl,h1,rfl⟩)
 (refine a_ rfl rfl ?_ ?_<;>intro h<;>simp only [nc]at h<;>try omega)
 subst h;refine uv_ (B8_ 8 a b (.inr rfl)) rfl ⟨?_,?_,trivial⟩;rintro ws (⟨_,h1,rfl⟩|⟨h0,_⟩);exact VOK_fin rfl (.inl ⟨rfl,h1,rfl⟩);cases h0;rintro ws (⟨h0,_⟩|⟨_,h1,rfl⟩);cases h0;exact VOK_fin rfl (.inr ⟨rfl,h1,rfl⟩)
def k_ (op k a b:Int):Int:=if F_ op b=0 then Z_ op k a b else 0
theorem M_ {op k a b:Int} (h:9<=op/\op<=12):Z_ op k a b=tI (xz_ op a b):=by rcases (by omega:op=9\/op=10\/op=11\/op=12)with rfl|rfl|rfl|rfl<;>rfl
theorem Q_ {op b:Int} (h:op≠7/\op≠8):F_ op b=0:=by unfold F_;rw [if_neg (by omega)]
theorem A3_ (op k a b:Int) (ho:OpK op k) (hk:k≠5):kH_ Tryz.prog 126 [.int .i64 op,.int .i64 k,.int .i64 a,.int .i64 b] (.tup [.int .i64 (k_ op k a b),.int .i64 (F_ op b)]):=by
 obtain ⟨h1,h2,h3,h4,h5,h6,h7⟩:=ho;rcases (by omega:k=1\/k=2\/k=3\/k=4)with hk|hk|hk|hk
 ·(refine uY_ (args':=[.sym 64,.int .i64 k,.sym 65,.sym 66]) (ls:=[.int .i64 op,.int .i64 a,.int .i64 b]) (c:=AC_) (n:=300) (t:=zx_) mo ov rfl rfl rfl rfl (λY _=>rfl) (λY _=>vC_ _) rfl (by subst hk;kernel_rfl) λY hf hg=>?_)
  unfold zx_;refine uG_ (z0_ op a b) rfl rfl ?_
  (refine a_ rfl rfl ?_ ?_<;>intro h<;>simp only [nc]at h<;>try omega)
  subst h;refine uG_ (A5_ 13 a b (by omega)) rfl rfl (uH_ ?_);rw [k_,if_pos (Q_ (by omega)),Q_ (by omega),hk];rfl
  (refine a_ rfl rfl ?_ ?_<;>intro h<;>simp only [nc]at h<;>try omega)
  subst h;refine uG_ (A5_ 14 a b (by omega)) rfl rfl (uH_ ?_);rw [k_,if_pos (Q_ (by omega)),Q_ (by omega),hk];rfl
  (refine a_ rfl rfl ?_ ?_<;>intro h<;>simp only [nc]at h<;>try omega)
  subst h;refine uG_ (A5_ 15 a b (by omega)) rfl rfl (uH_ ?_);rw [k_,if_pos (Q_ (by omega)),Q_ (by omega),hk];rfl
  (refine a_ rfl rfl ?_ ?_<;>intro h<;>simp only [nc]at h<;>try omega)
  ·(refine a_ rfl rfl ?_ ?_<;>intro h<;>simp only [nc]at h<;>try omega)
   refine w5_ rfl (λh=>?_) (λh=>?_)
   ·(
     refine uG_ (wR_ _) rfl rfl (uH_ ?_);rw [k_,if_pos (Q_ (by omega)),Q_ (by omega),M_ (by omega)];rfl)
   exfalso;omega
  .refine w5_ rfl (λh=>?_) (λh=>?_)
   ·(
     refine uG_ (wR_ _) rfl rfl (uH_ ?_);rw [k_,if_pos (Q_ (by omega)),Q_ (by omega),M_ (by omega)];rfl)
   exfalso;omega
 all_goals have hk1:k≠1:=by omega
 ·(refine uY_ (args':=[.sym 64,.int .i64 k,.sym 65,.sym 66]) (ls:=[.int .i64 op,.int .i64 a,.int .i64 b]) (c:=AD_) (n:=300) (t:=zy_) mo ov rfl rfl rfl rfl (λY _=>rfl) (λY _=>vC_ _) rfl (by subst hk;kernel_rfl) λY hf hg=>?_)
  unfold zy_;refine uG_ (z0_ op a b) rfl rfl (w5_ rfl (λh=>?_) (λh=>?_))
  ·(
    refine uG_ (wR_ _) rfl rfl (uH_ ?_);rw [k_,if_pos (Q_ (by omega)),Q_ (by omega),M_ (by omega)];rfl)
  ·(
    refine uv_ (A6_ op a b (by omega)) rfl ⟨?_,?_,trivial⟩;rintro ws (⟨_,h1,rfl⟩|⟨h0,_⟩);refine uG_ (w6_ _ _) rfl rfl (uH_ ?_);rw [k_,if_pos h1,h1,vD_ (by omega),hk];rfl;cases h0
    .rintro ws (⟨h0,_⟩|⟨_,h1,rfl⟩);cases h0
     .refine uH_ ?_;rw [k_,if_neg (by omega),h1];rfl)
 ·(refine uY_ (args':=[.sym 64,.int .i64 k,.sym 65,.sym 66]) (ls:=[.int .i64 op,.int .i64 a,.int .i64 b]) (c:=AE_) (n:=300) (t:=zz_) mo ov rfl rfl rfl rfl (λY _=>rfl) (λY _=>vC_ _) rfl (by subst hk;kernel_rfl) λY hf hg=>?_)
  unfold zz_;refine uG_ (z0_ op a b) rfl rfl (w5_ rfl (λh=>?_) (λh=>?_))
  ·(
    refine uG_ (wR_ _) rfl rfl (uH_ ?_);rw [k_,if_pos (Q_ (by omega)),Q_ (by omega),M_ (by omega)];rfl)
  ·(
    refine uv_ (A6_ op a b (by omega)) rfl ⟨?_,?_,trivial⟩;rintro ws (⟨_,h1,rfl⟩|⟨h0,_⟩);refine uG_ (w6_ _ _) rfl rfl (uH_ ?_);rw [k_,if_pos h1,h1,vD_ (by omega),hk];rfl;cases h0
    .rintro ws (⟨h0,_⟩|⟨_,h1,rfl⟩);cases h0
     .refine uH_ ?_;rw [k_,if_neg (by omega),h1];rfl)
 ·(refine uY_ (args':=[.sym 64,.int .i64 k,.sym 65,.sym 66]) (ls:=[.int .i64 op,.int .i64 a,.int .i64 b]) (c:=AF_) (n:=300) (t:=zA_) mo ov rfl rfl rfl rfl (λY _=>rfl) (λY _=>vC_ _) rfl (by subst hk;kernel_rfl) λY hf hg=>?_)
  unfold zA_;refine uG_ (z0_ op a b) rfl rfl (w5_ rfl (λh=>?_) (λh=>?_))
  ·(
    refine uG_ (wR_ _) rfl rfl (uH_ ?_);rw [k_,if_pos (Q_ (by omega)),Q_ (by omega),M_ (by omega)];rfl)
  ·(
    refine uv_ (A6_ op a b (by omega)) rfl ⟨?_,?_,trivial⟩;rintro ws (⟨_,h1,rfl⟩|⟨h0,_⟩);refine uG_ (w6_ _ _) rfl rfl (uH_ ?_);rw [k_,if_pos h1,h1,vD_ (by omega),hk];rfl;cases h0
    .rintro ws (⟨h0,_⟩|⟨_,h1,rfl⟩);cases h0
     .refine uH_ ?_;rw [k_,if_neg (by omega),h1];rfl)
end Go.Proofs.YtjconanknjgpnaaGreat.vars
set_option maxRecDepth 100000
set_option linter.unusedVariables false
set_option linter.unusedSimpArgs false
namespace Go.Proofs.YtjconanknjgpnaaGreat.vars
open Go Go.Sx
def c89:VC:=⟨⟨[],[]⟩,[],[],0,true,[]⟩
def t89:VT:=.ite 64 (.done (J 1))<|.done (J 0)
def c90:VC:=⟨⟨[],[]⟩,[],[],0,true,[]⟩
def t90:VT:=Iq 64 2 65 (.done (J 16))<|Iq 64 3 66 (.done (J 32))<|Iq 64 4 67 (.done (J 64))<|.done (J 0)
def Bs_:VC:=⟨⟨[],[]⟩,[(89,[none])],[],0,true,[]⟩
def Au_:VT:=Li Q8 [64,J 0] 65<|.call 89 [65] 66 [none]<|.done (66)
def Bt_:VC:=⟨⟨[],[]⟩,[(89,[none])],[],0,true,[]⟩
def Av_:VT:=Li Zk [64,J 65536] 65<|It Z2 [65,J 0] 66 (Li Zs [65,J 65536] 67<|It Qo [67,J 32768] 68 (Li Zf [67,J 65536] 69<|.done (69))<|.done (67))<|It Qo [65,J 32768] 67 (Li Zf [65,J 65536] 68<|.done (68))<|.done (65)
def Bu_:VC:=⟨⟨[],[]⟩,[(89,[none])],[],0,true,[]⟩
def Aw_:VT:=Li Zk [64,J 4294967296] 65<|It Z2 [65,J 0] 66 (Li Zs [65,J 4294967296] 67<|It Qo [67,J 2147483648] 68 (Li Zf [67,J 4294967296] 69<|.done (69))<|.done (67))<|It Qo [65,J 2147483648] 67 (Li Zf [65,J 4294967296] 68<|.done (68))<|.done (65)
def Bv_:VC:=⟨⟨[],[]⟩,[(89,[none])],[],0,true,[]⟩
def Ax_:VT:=.done (64)
def Bw_:VC:=⟨⟨[],[]⟩,[(89,[none])],[],0,true,[]⟩
def Ay_:VT:=.done (J 0)
def c87:VC:=⟨⟨[],[]⟩,[(55,[none]),(89,[none]),(90,[none])],[],0,true,[]⟩
def t87:VT:=Iq 65 1 68 (Iq 64 13 69 (It Q8 [66,J 0] 70 (Li Q8 [67,J 0] 71<|.call 89 [71] 72 [none]<|.done (.tup [72,J 0]))<|.call 89 [.bool false] 71 [none]<|.done (.tup [71,J 0]))<|Iq 64 14 70 (It Q8 [66,J 0] 71 (.call 89 [.bool true] 72 [none]<|.done (.tup [72,J 0]))<|Li Q8 [67,J 0] 72<|.call 89 [72] 73 [none]<|.done (.tup [73,J 0]))<|Iq 64 15 71 (Li Qt [66,J 0] 72<|.call 89 [72] 73 [none]<|.done (.tup [73,J 0]))<|Iq 64 9 72 (Li Qq [66,67] 73<|.call 89 [73] 74 [none]<|.done (.tup [74,J 0]))<|Iq 64 10 73 (Li U0 [66,67] 74<|.call 89 [74] 75 [none]<|.done (.tup [75,J 0]))<|Dn [J 4])<|.call 90 [65] 69 [none]<|Iq 69 0 70 (Dn [J 4])<|Iq 64 4 71 (Li Zs [66,67] 72<|.call 55 [65,72] 73 [none]<|.done (.tup [73,J 0]))<|Iq 64 5 72 (Li Zf [66,67] 73<|.call 55 [65,73] 74 [none]<|.done (.tup [74,J 0]))<|Iq 64 6 73 (Li U8 [66,67] 74<|.call 55 [65,74] 75 [none]<|.done (.tup [75,J 0]))<|Iq 64 16 74 (Li Zb [66] 75<|.call 55 [65,75] 76 [none]<|.done (.tup [76,J 0]))<|Iq 64 7 75 (It Qt [67,J 0] 76 (Dn [J 5])<|It Qt [67,.int .i64 (-1)] 77 (Iq 64 8 78 (Dn [J 0])<|Li Zb [66] 79<|.call 55 [65,79] 80 [none]<|.done (.tup [80,J 0]))<|Iq 64 8 78 (Li Zk [66,67] 79<|.done (.tup [79,J 0]))<|Li U1 [66,67] 79<|.done (.tup [79,J 0]))<|Iq 64 8 76 (It Qt [67,J 0] 77 (Dn [J 5])<|It Qt [67,.int .i64 (-1)] 78 (Iq 64 8 79 (Dn [J 0])<|Li Zb [66] 80<|.call 55 [65,80] 81 [none]<|.done (.tup [81,J 0]))<|Iq 64 8 79 (Li Zk [66,67] 80<|.done (.tup [80,J 0]))<|Li U1 [66,67] 80<|.done (.tup [80,J 0]))<|Iq 64 9 77 (Li Qq [66,67] 78<|.call 89 [78] 79 [none]<|.done (.tup [79,J 0]))<|Iq 64 10 78 (Li U0 [66,67] 79<|.call 89 [79] 80 [none]<|.done (.tup [80,J 0]))<|Iq 64 11 79 (Li U7 [66,67] 80<|.call 89 [80] 81 [none]<|.done (.tup [81,J 0]))<|Iq 64 12 80 (Li Zr [66,67] 81<|.call 89 [81] 82 [none]<|.done (.tup [82,J 0]))<|Dn [J 4]
theorem p89 (b:Bool):kH_ Tryz.prog 89 [.bool b] (.int .i64 (tI b)):=by refine t6_ (sh:=[none]) (ls:=[.bool b]) (c:=c89) (n:=300) (t:=t89) mo ov rfl rfl rfl (λY _=>vC_ _) rfl (by kernel_rfl) λY hf hg=>?_;unfold t89;cases b;exact ve_ (t:=false) rfl (λh=>by cases h) (λh=>uH_ rfl);exact ve_ (t:=true) rfl (λh=>uH_ rfl) (λh=>by cases h)
def xy_ (k:Int):Int:=if k=2 then 16 else if k=3 then 32 else if k=4 then 64 else 0
theorem p90 (k:Int):kH_ Tryz.prog 90 [.int .i64 k] (.int .i64 (xy_ k)):=by
 refine t6_ (sh:=[none]) (ls:=[.int .i64 k]) (c:=c90) (n:=300) (t:=t90) mo ov rfl rfl rfl (λY _=>vC_ _) rfl (by kernel_rfl) λY hf hg=>?_;unfold t90
 (refine a_ rfl rfl ?_ ?_<;>intro h<;>simp only [nc]at h<;>try omega)
 subst h;exact uH_ rfl
 (refine a_ rfl rfl ?_ ?_<;>intro h<;>simp only [nc]at h<;>try omega)
 subst h;exact uH_ rfl
 (refine a_ rfl rfl ?_ ?_<;>intro h<;>simp only [nc]at h<;>try omega)
 subst h;exact uH_ rfl;refine uH_ ?_;have:xy_ k=0:=by unfold xy_;simp only [*,if_false]
 rw [this];rfl
def wB_ (n x:Int):Int:=if x.tmod n<0 then (if n/2<=x.tmod n+n then x.tmod n+n-n else x.tmod n+n)else (if n/2<=x.tmod n then x.tmod n-n else x.tmod n)
theorem wK_ (x n:Int) (hn:0<n): -n<x.tmod n/\x.tmod n<n:=by refine ⟨?_,Int.tmod_lt_of_pos x hn⟩;have:=Int.tmod_lt_of_pos (-x) hn;rw [Int.neg_tmod]at this;omega
theorem yz_ (x n:Int) (hn:0<n):x.tmod n=x%n\/(x.tmod n=x%n-n/\x%n≠0):=by rw [Int.tmod_eq_emod];split;left;omega;rename_i h;right;have h2:¬n ∣ x:=λhd=>h (.inr hd);have:x%n≠0:=λe=>h2 (Int.dvd_of_emod_eq_zero e);omega
theorem Af_ (x:Int):wB_ 65536 x=IntKind.i16.wrap x:=by have h:=yz_ x 65536 (by omega);have hb:=wK_ x 65536 (by omega);simp only [IntKind.wrap,IntKind.bits,IntKind.signed,wB_];simp;generalize x.tmod 65536=r at*;omega
theorem Ag_ (x:Int):wB_ 4294967296 x=IntKind.i32.wrap x:=by have h:=yz_ x 4294967296 (by omega);have hb:=wK_ x 4294967296 (by omega);simp only [IntKind.wrap,IntKind.bits,IntKind.signed,wB_];simp;generalize x.tmod 4294967296=r at*;omega
theorem Ca_ (x:Int):kH_ Tryz.prog 55 [.int .i64 1,.int .i64 x] (.int .i64 (x_ 1 x)):=by refine uY_ (args':=[.int .i64 1,.sym 64]) (ls:=[.int .i64 x]) (c:=Bs_) (n:=300) (t:=Au_) mo ov rfl rfl rfl rfl (λY _=>rfl) (λY _=>vC_ _) rfl (by kernel_rfl) λY hf hg=>?_;unfold Au_;refine vv_ (run_neq ..) rfl (uG_ (p89 _) rfl rfl (uH_ ?_));by_cases hi:x=0<;>simp [hi,x_,tI]<;>rfl
theorem Cd_ (x:Int):kH_ Tryz.prog 55 [.int .i64 4,.int .i64 x] (.int .i64 x):=by refine uY_ (args':=[.int .i64 4,.sym 64]) (ls:=[.int .i64 x]) (c:=Bv_) (n:=300) (t:=Ax_) mo ov rfl rfl rfl rfl (λY _=>rfl) (λY _=>vC_ _) rfl (by kernel_rfl) λY hf hg=>?_;unfold Ax_;exact uH_ rfl
theorem Ce_ (x:Int):kH_ Tryz.prog 55 [.int .i64 5,.int .i64 x] (.int .i64 0):=by refine uY_ (args':=[.int .i64 5,.sym 64]) (ls:=[.int .i64 x]) (c:=Bw_) (n:=300) (t:=Ay_) mo ov rfl rfl rfl rfl (λY _=>rfl) (λY _=>vC_ _) rfl (by kernel_rfl) λY hf hg=>?_;unfold Ay_;exact uH_ rfl
theorem Cb_ (x:Int):kH_ Tryz.prog 55 [.int .i64 2,.int .i64 x] (.int .i64 (wB_ 65536 x)):=by
 have hb:=wK_ x 65536 (by omega);refine uY_ (args':=[.int .i64 2,.sym 64]) (ls:=[.int .i64 x]) (c:=Bt_) (n:=300) (t:=Av_) mo ov rfl rfl rfl rfl (λY _=>rfl) (λY _=>vC_ _) rfl (by kernel_rfl) λY hf hg=>?_;unfold Av_;have hr:=u4_ (P:=Tryz.prog) (k:=.i64) (x:=x) (c:=65536) (by omega) 2 false false;unfold wB_;generalize x.tmod 65536=r at*;refine vv_ hr rfl ?_;repeat' (first
  |refine vv_ (run_lss ..) rfl ?_
  |refine vv_ (run_geq ..) rfl ?_
  |refine vv_ (run_add ..) rfl ?_
  |refine vv_ (run_sub ..) rfl ?_
  |refine ve_ rfl (λh=>?_) (λh=>?_)
  |refine uH_ ?_)
 all_goals (simp only [decide_eq_true_eq,decide_eq_false_iff_not]at *)
 all_goals (try rw [vK_ (x:=r+65536) (by omega) (by omega)]at *)
 all_goals
  (show AV.int .i64 _=AV.int .i64 _
   congr 1
   repeat' split
   all_goals first
    |(exfalso;omega)
    |rfl
    |(rw [vK_ (x:=r+65536-65536) (by omega) (by omega)])
    |(rw [vK_ (x:=r-65536) (by omega) (by omega)])
    |omega)
theorem Cc_ (x:Int):kH_ Tryz.prog 55 [.int .i64 3,.int .i64 x] (.int .i64 (wB_ 4294967296 x)):=by
 have hb:=wK_ x 4294967296 (by omega);refine uY_ (args':=[.int .i64 3,.sym 64]) (ls:=[.int .i64 x]) (c:=Bu_) (n:=300) (t:=Aw_) mo ov rfl rfl rfl rfl (λY _=>rfl) (λY _=>vC_ _) rfl (by kernel_rfl) λY hf hg=>?_;unfold Aw_;have hr:=u4_ (P:=Tryz.prog) (k:=.i64) (x:=x) (c:=4294967296) (by omega) 2 false false;unfold wB_;generalize x.tmod 4294967296=r at*;refine vv_ hr rfl ?_;repeat' (first
  |refine vv_ (run_lss ..) rfl ?_
  |refine vv_ (run_geq ..) rfl ?_
  |refine vv_ (run_add ..) rfl ?_
  |refine vv_ (run_sub ..) rfl ?_
  |refine ve_ rfl (λh=>?_) (λh=>?_)
  |refine uH_ ?_)
 all_goals (simp only [decide_eq_true_eq,decide_eq_false_iff_not]at *)
 all_goals (try rw [vK_ (x:=r+4294967296) (by omega) (by omega)]at *)
 all_goals
  (show AV.int .i64 _=AV.int .i64 _
   congr 1
   repeat' split
   all_goals first
    |(exfalso;omega)
    |rfl
    |(rw [vK_ (x:=r+4294967296-4294967296) (by omega) (by omega)])
    |(rw [vK_ (x:=r-4294967296) (by omega) (by omega)])
    |omega)
theorem p55 {k:Int} (h:1<=k/\k<=5) (x:Int):kH_ Tryz.prog 55 [.int .i64 k,.int .i64 x] (.int .i64 (x_ k x)):=by rcases (by omega:k=1\/k=2\/k=3\/k=4\/k=5)with rfl|rfl|rfl|rfl|rfl;exact Ca_ x;have:=Cb_ x;rw [Af_]at this;exact this;have:=Cc_ x;rw [Ag_]at this;exact this;exact Cd_ x;exact Ce_ x
theorem p87 (op k a b:Int) (ho:OpK op k) (hk:k≠5) (ha:InK k a):kH_ Tryz.prog 87 [.int .i64 op,.int .i64 k,.int .i64 a,.int .i64 b] (.tup [.int .i64 (k_ op k a b),.int .i64 (F_ op b)]):=by
 obtain ⟨h1,h2,h3,h4,h5,h6,h7⟩:=ho;have hkk:1<=k/\k<=5:=⟨h3,h4⟩;refine t6_ (sh:=[none,none,none,none]) (ls:=[.int .i64 op,.int .i64 k,.int .i64 a,.int .i64 b]) (c:=c87) (n:=300) (t:=t87) mo ov rfl rfl rfl (λY _=>vC_ _) rfl (by kernel_rfl) λY hf hg=>?_;unfold t87;have fin0:∀{v:Int},(op≠7/\op≠8)->Z_ op k a b=v->AV.tup [.int .i64 v,.int .i64 0]=.tup [.int .i64 (k_ op k a b),.int .i64 (F_ op b)]:=λh e=>by rw [k_,if_pos (Q_ h),Q_ h,e]
 have fin1:∀{v:Int},b≠0->Z_ op k a b=v->AV.tup [.int .i64 v,.int .i64 0]=.tup [.int .i64 (k_ op k a b),.int .i64 (F_ op b)]:=λh e=>by have h0:F_ op b=0:=(by unfold F_;rw [if_neg (λhh=>h hh.2)]);rw [k_,if_pos h0,h0,e]
 have fin5:(op=7\/op=8)->b=0->AV.tup [.int .i64 0,.int .i64 5]=.tup [.int .i64 (k_ op k a b),.int .i64 (F_ op b)]:=λh e=>by have h0:F_ op b=5:=(by unfold F_;rw [if_pos ⟨h,e⟩]);rw [k_,h0,if_neg (by omega)]
 have h8:k≠1->op=8->Z_ op k a b=a.tmod b:=λhk1 e=>by have:=yA_ (b:=b) ha hk hk1;rw [vD_ (by omega),e];show x_ k (a.tmod b)=_;rw [S_ this hk]
 have h7':k≠1->op=7->b≠ -1->Z_ op k a b=w64 (a.tdiv b):=λhk1 e hb=>by have h:=z8_ (b:=b) ha hk hk1 hb;have e64:w64 (a.tdiv b)=a.tdiv b:=vK_ h.i64.1 h.i64.2;rw [vD_ (by omega),e];show x_ k (w64 (a.tdiv b))=_;rw [e64,S_ h hk]
 (refine a_ rfl rfl ?_ ?_<;>intro h<;>simp only [nc]at h<;>try omega)
 ·(refine a_ rfl rfl ?_ ?_<;>intro h<;>simp only [nc]at h<;>try omega)
  .have e:Z_ op k a b=tI (decide (¬a=0)&&decide (¬b=0)):=by subst op;rfl
   (refine a_ rfl rfl ?_ ?_<;>intro h<;>simp only [nc]at h<;>try omega)
   .refine vv_ (run_neq ..) rfl (uG_ (p89 _) rfl rfl (uH_ (fin0 (by omega) ?_)));rw [e,decide_eq_true (by omega),Bool.true_and];by_cases hb:b=0<;>simp [hb]
   refine uG_ (p89 false) rfl rfl (uH_ (fin0 (by omega) ?_));rw [e,decide_eq_false (by omega),Bool.false_and]
  (refine a_ rfl rfl ?_ ?_<;>intro h<;>simp only [nc]at h<;>try omega)
  .have e:Z_ op k a b=tI (decide (¬a=0)||decide (¬b=0)):=by subst op;rfl
   (refine a_ rfl rfl ?_ ?_<;>intro h<;>simp only [nc]at h<;>try omega)
   refine uG_ (p89 true) rfl rfl (uH_ (fin0 (by omega) ?_));rw [e,decide_eq_true (by omega),Bool.true_or]
   .refine vv_ (run_neq ..) rfl (uG_ (p89 _) rfl rfl (uH_ (fin0 (by omega) ?_)));rw [e,decide_eq_false (p:=¬a=0) (by omega),Bool.false_or];by_cases hb:b=0<;>simp [hb]
  (refine a_ rfl rfl ?_ ?_<;>intro h<;>simp only [nc]at h<;>try omega)
  have e:Z_ op k a b=tI (decide (a=0)):=(by subst op;rfl);exact vv_ (run_eql ..) rfl (uG_ (p89 _) rfl rfl (uH_ (fin0 (by omega) e)))
  (refine a_ rfl rfl ?_ ?_<;>intro h<;>simp only [nc]at h<;>try omega)
  have e:Z_ op k a b=tI (decide (a=b)):=(by subst op;rfl);exact vv_ (run_eql ..) rfl (uG_ (p89 _) rfl rfl (uH_ (fin0 (by omega) e)))
  (refine a_ rfl rfl ?_ ?_<;>intro h<;>simp only [nc]at h<;>try omega)
  have e:Z_ op k a b=tI (decide (¬a=b)):=(by subst op;rfl);refine vv_ (run_neq ..) rfl (uG_ (p89 _) rfl rfl (uH_ (fin0 (by omega) ?_)));rw [e];by_cases hb:a=b<;>simp [hb]
 have hk1:k≠1:=h;have hb:xy_ k≠0:=by unfold xy_;split<;>(try split)<;>(try split)<;>omega
 refine uG_ (p90 k) rfl rfl ?_
 (refine a_ rfl rfl ?_ ?_<;>intro h<;>simp only [nc]at h<;>try omega)
 (refine a_ rfl rfl ?_ ?_<;>intro h<;>simp only [nc]at h<;>try omega)
 exact vv_ (run_add ..) rfl (uG_ (p55 hkk _) rfl rfl (uH_ (fin0 (by omega) (by subst op;rfl))))
 (refine a_ rfl rfl ?_ ?_<;>intro h<;>simp only [nc]at h<;>try omega)
 exact vv_ (run_sub ..) rfl (uG_ (p55 hkk _) rfl rfl (uH_ (fin0 (by omega) (by subst op;rfl))))
 (refine a_ rfl rfl ?_ ?_<;>intro h<;>simp only [nc]at h<;>try omega)
 exact vv_ (run_mul ..) rfl (uG_ (p55 hkk _) rfl rfl (uH_ (fin0 (by omega) (by subst op;rfl))))
 (refine a_ rfl rfl ?_ ?_<;>intro h<;>simp only [nc]at h<;>try omega)
 exact vv_ (vo_ ..) rfl (uG_ (p55 hkk _) rfl rfl (uH_ (fin0 (by omega) (by subst op;rfl))))
 (refine a_ rfl rfl ?_ ?_<;>intro h<;>simp only [nc]at h<;>try omega)
 .have h7'':=h
  (refine a_ rfl rfl ?_ ?_<;>intro h<;>simp only [nc]at h<;>try omega)
  exact uH_ (fin5 (by omega) h);have hb0:=h
  (refine a_ rfl rfl ?_ ?_<;>intro h<;>simp only [nc]at h<;>try omega)
  .have hbm:=h
   (refine a_ rfl rfl ?_ ?_<;>intro h<;>simp only [nc]at h<;>try omega)
   refine vv_ (vo_ ..) rfl (uG_ (p55 hkk _) rfl rfl (uH_ (fin1 hb0 ?_)));rw [vD_ (by omega),h7'',hbm];show x_ k (w64 (a.tdiv (-1)))=x_ k (IntKind.i64.wrap (0-a));rw [z9_,Int.zero_sub];rfl
  have hbm:=h
  (refine a_ rfl rfl ?_ ?_<;>intro h<;>simp only [nc]at h<;>try omega)
  exact vv_ (vr_ hb0 ..) rfl (uH_ (fin1 hb0 (h7' hk1 h7'' hbm)))
 (refine a_ rfl rfl ?_ ?_<;>intro h<;>simp only [nc]at h<;>try omega)
 .have h8':=h
  (refine a_ rfl rfl ?_ ?_<;>intro h<;>simp only [nc]at h<;>try omega)
  exact uH_ (fin5 (by omega) h);have hb0:=h
  (refine a_ rfl rfl ?_ ?_<;>intro h<;>simp only [nc]at h<;>try omega)
  .have hbm:=h
   (refine a_ rfl rfl ?_ ?_<;>intro h<;>simp only [nc]at h<;>try omega)
   refine uH_ (fin1 hb0 ?_);rw [h8 hk1 h8',hbm,Ab_]
  have hbm:=h
  (refine a_ rfl rfl ?_ ?_<;>intro h<;>simp only [nc]at h<;>try omega)
  exact vv_ (u4_ hb0 ..) rfl (uH_ (fin1 hb0 (h8 hk1 h8')))
 (refine a_ rfl rfl ?_ ?_<;>intro h<;>simp only [nc]at h<;>try omega)
 have e:Z_ op k a b=tI (decide (a=b)):=(by subst op;rfl);exact vv_ (run_eql ..) rfl (uG_ (p89 _) rfl rfl (uH_ (fin0 (by omega) e)))
 (refine a_ rfl rfl ?_ ?_<;>intro h<;>simp only [nc]at h<;>try omega)
 .have e:Z_ op k a b=tI (decide (¬a=b)):=(by subst op;rfl);refine vv_ (run_neq ..) rfl (uG_ (p89 _) rfl rfl (uH_ (fin0 (by omega) ?_)));rw [e];by_cases hb:a=b<;>simp [hb]
 (refine a_ rfl rfl ?_ ?_<;>intro h<;>simp only [nc]at h<;>try omega)
 have e:Z_ op k a b=tI (decide (a<b)):=(by subst op;rfl);exact vv_ (run_lss ..) rfl (uG_ (p89 _) rfl rfl (uH_ (fin0 (by omega) e)))
 (refine a_ rfl rfl ?_ ?_<;>intro h<;>simp only [nc]at h<;>try omega)
 have e:Z_ op k a b=tI (decide (a<=b)):=by subst op;rfl
 exact vv_ (run_leq ..) rfl (uG_ (p89 _) rfl rfl (uH_ (fin0 (by omega) e)))
end Go.Proofs.YtjconanknjgpnaaGreat.vars
set_option maxRecDepth 100000
set_option linter.unusedVariables false
set_option linter.unusedSimpArgs false
namespace Go.Proofs.YtjconanknjgpnaaGreat.vars
open Go.Sx Go
theorem xd_ (s:Bool) (t:Nat):((FloatKind.f64.format).read (FloatKind.f64.encode (.nan s (FloatKind.f64.format.quiet t)))).isNaN=true:=by
 refine i2_ ?_ (by decide +kernel);have h51:(Ieee.Format.quiet Ieee.double t%Ieee.double.binade).testBit 51=true:=by have hb:Ieee.double.binade=2^52:=(by decide +kernel);rw [hb,Nat.testBit_mod_two_pow];show (decide (51<52)&&(t|||2^(Ieee.double.fractionBits-1)).testBit 51)=true;have hf:Ieee.double.fractionBits-1=51:=(by decide +kernel);rw [hf,Nat.testBit_or,Nat.testBit_two_pow_self];simp
 have hpos:0<Ieee.Format.quiet Ieee.double t%Ieee.double.binade:=by rcases Nat.eq_zero_or_pos (Ieee.Format.quiet Ieee.double t%Ieee.double.binade)with h|h;rw [h]at h51;simp at h51;exact h
 have hlt:Ieee.Format.quiet Ieee.double t%Ieee.double.binade<Ieee.double.binade:=Nat.mod_lt _ (by decide +kernel);show Ieee.double.infRung<(Ieee.double.word s (Ieee.double.infRung+Ieee.Format.quiet Ieee.double t%Ieee.double.binade))%Ieee.double.signWeight;generalize Ieee.Format.quiet Ieee.double t%Ieee.double.binade=q at*;have e1:Ieee.double.infRung=9218868437227405312:=by decide +kernel
 have e2:Ieee.double.signWeight=9223372036854775808:=by decide +kernel
 have e3:Ieee.double.binade=4503599627370496:=by decide +kernel
 unfold Ieee.Format.word;rw [e1,e2];rw [e3]at hlt;cases s<;>simp<;>omega
theorem zF_ (b:Nat):∃q:Question,Extern.MathFloor.toIntegral "math.archTrunc" .zero #[.float .f64 b]=(match FloatKind.f64.format.read b with
 | .nan s t=>if FloatKind.f64.format.quiet t=t then pure (.float .f64 b)else do
    let kept←choose q
    pure (.float .f64 (if kept==1 then b else FloatKind.f64.encode (.nan s (FloatKind.f64.format.quiet t))))
 |d=>pure (.float .f64 (FloatKind.f64.encode (d.integral .zero)))):=⟨_,rfl⟩
def Bl_ (b b':Nat):Prop:=(de_ b=true->((FloatKind.f64.format).read b').isNaN=true)/\(de_ b=false->b'=jk_ b)
theorem yS_ {P:Program} (b:Nat) (w:World):
  ∃b' n,(Extern.MathFloor.toIntegral "math.archTrunc" .zero #[.float .f64 b]).run P w=.ok (.float .f64 b') { w with drawn:=n }/\Bl_ b b':=by
 obtain ⟨q,e⟩:=zF_ b;rw [e];have hn:(FloatKind.f64.format.read b).isNaN=de_ b:=uz_;cases hd:FloatKind.f64.format.read b with
 |number s m i=>rw [hd]at hn;refine ⟨jk_ b,w.drawn,?_,λh=>(Bool.false_ne_true (hn.trans h)).elim,λ_=>rfl⟩;unfold jk_;rw [show Ieee.double.read b=_ from hd];rfl
 |infinity s=>rw [hd]at hn;refine ⟨jk_ b,w.drawn,?_,λh=>(Bool.false_ne_true (hn.trans h)).elim,λ_=>rfl⟩;unfold jk_;rw [show Ieee.double.read b=_ from hd];rfl
 |nan s t=>rw [hd]at hn;have hf:de_ b≠false:=λh=>(by rw [←hn]at h;cases h);simp only;split;exact ⟨b,w.drawn,rfl,λ_=>by rw [hd];rfl,λh=>absurd h hf⟩;simp only [Sem.run_bind,choose,Sem.run,Result.andThen];by_cases hq:q.forced=true;rw [if_pos hq];exact ⟨_,w.drawn,rfl,λ_=>xd_ s t,λh=>absurd h hf⟩;rw [if_neg hq];refine ⟨_,_,rfl,λ_=>?_,λh=>absurd h hf⟩;split;rw [hd];rfl;exact xd_ s t
theorem x7_ (b:Nat) (w:World):
  Calls Tryz.prog 127 #[.float .f64 b] w λe w'=>∃b' n,e=.returned (.float .f64 b')/\w'={ w with drawn:=n }/\Bl_ b b':=by
 obtain ⟨b',n,h1,h2⟩:=yS_ (P:=Tryz.prog) b w;have h3:(callFunc 166 #[.float .f64 b]).run Tryz.prog w=.ok (.value (.float .f64 b')) { w with drawn:=n }:=by rw [run_callFunc_extern (P:=Tryz.prog) (f:=166) (e:=Extern.MathFloor.toIntegral "math.archTrunc" .zero) Tryz.func166 (by kernel_rfl) (by kernel_rfl) (by kernel_rfl) (by kernel_rfl),h1];rfl
 have H2:=Lib.hid h2;clear h2 h1;generalize hw1:({ w with drawn:=n }:World)=w1 at*;have H3:=Lib.hid hw1;clear hw1
 go_enter Tryz.func127,Tryz.ntmps127
 go_wp2
 go_ret
 exact ⟨b',n,rfl,H3.out.symm,H2.out⟩
theorem B7_ (o:Option Nat):kH_ Tryz.prog 127 [fv o] (fv (ui_ o)):=by
 intro H B pr E w vs hg hr hc;have key:∃b,vs=[.float .f64 b]/\(de_ b=nX_ o)/\(nX_ o=false->o=some b):=by
  cases o with
  |none=>simp only [fv,mkF,ConL,Con]at hc;obtain ⟨v,r,rfl,⟨b,rfl,hb⟩,rfl⟩:=hc;exact ⟨b,rfl,by rw [←uz_];exact hb,λh=>by cases h⟩
  |some b=>simp only [fv,mkF,ConL,Con]at hc;obtain ⟨v,r,rfl,rfl,rfl⟩:=hc;exact ⟨b,rfl,rfl,λ_=>rfl⟩
 obtain ⟨b,rfl,hn,ho⟩:=key;refine (x7_ b w).mono λe w' he=>?_;obtain ⟨b',n,rfl,rfl,h1,h2⟩:=he;refine ⟨E,Env.le_refl E,_,rfl,?_,hr.drawn n⟩;cases hb:nX_ o with
 |true=>
  have e:ui_ o=none:=by
   cases o with
   |none=>rfl
   |some x=>show (if de_ x=true then none else some (jk_ x))=none;exact if_pos hb
  rw [e];simp only [fv,mkF,Con];exact ⟨b',rfl,h1 (hn.trans hb)⟩
 |false=>
  rw [ho hb];have hb':de_ b=false:=hn.trans hb;have e:ui_ (some b)=some (jk_ b):=by show (if de_ b=true then none else some (jk_ b))=_;rw [if_neg (by rw [hb'];exact Bool.false_ne_true)]
  rw [e,←h2 hb'];simp only [fv,mkF,Con]
end Go.Proofs.YtjconanknjgpnaaGreat.vars
set_option maxRecDepth 100000
set_option linter.unusedVariables false
set_option linter.unusedSimpArgs false
namespace Go.Proofs.YtjconanknjgpnaaGreat.vars
open Go Go.Sx
def Da_:VC:=⟨⟨[],[]⟩,[],[],0,true,[]⟩
def Cp_:VT:=Iq 64 4 67 (Li U9 [65,66] 68<|.done (.tup [68,.bool false,.bool true]))<|Iq 64 5 68 (Li Ua [65,66] 69<|.done (.tup [69,.bool false,.bool true]))<|Iq 64 6 69 (Li Ub [65,66] 70<|.done (.tup [70,.bool false,.bool true]))<|Iq 64 7 70 (Li Uc [65,66] 71<|.done (.tup [71,.bool false,.bool true]))<|Iq 64 16 71 (Li Zb [65] 72<|.done (.tup [72,.bool false,.bool true]))<|Iq 64 9 72 (Li Ud [65,66] 73<|.done (.tup [.flt .f64 0,73,.bool true]))<|Iq 64 10 73 (Li Zt [65,66] 74<|.done (.tup [.flt .f64 0,74,.bool true]))<|Iq 64 11 74 (Li U2 [65,66] 75<|.done (.tup [.flt .f64 0,75,.bool true]))<|Iq 64 12 75 (Li Ue [65,66] 76<|.done (.tup [.flt .f64 0,76,.bool true]))<|.done (.tup [.flt .f64 0,.bool false,.bool false])
def c85:VC:=⟨⟨[],[]⟩,[],[],0,true,[]⟩
def t85:VT:=Iq 64 4 67 (Li U9 [65,66] 68<|.done (.tup [68,.bool false,.bool true]))<|Iq 64 5 68 (Li Ua [65,66] 69<|.done (.tup [69,.bool false,.bool true]))<|Iq 64 6 69 (Li Ub [65,66] 70<|.done (.tup [70,.bool false,.bool true]))<|Iq 64 7 70 (Li Uc [65,66] 71<|.done (.tup [71,.bool false,.bool true]))<|Iq 64 16 71 (Li Zb [65] 72<|.done (.tup [72,.bool false,.bool true]))<|Iq 64 9 72 (Li Ud [65,66] 73<|.done (.tup [.flt .f64 0,73,.bool true]))<|Iq 64 10 73 (Li Zt [65,66] 74<|.done (.tup [.flt .f64 0,74,.bool true]))<|Iq 64 11 74 (Li U2 [65,66] 75<|.done (.tup [.flt .f64 0,75,.bool true]))<|Iq 64 12 75 (Li Ue [65,66] 76<|.done (.tup [.flt .f64 0,76,.bool true]))<|.done (.tup [.flt .f64 0,.bool false,.bool false])
def c86:VC:=⟨⟨[],[]⟩,[],[],0,true,[]⟩
def t86:VT:=.ite 64 (.done (.agg [J 1,J 1,.flt .f64 0]))<|.done (.agg [J 1,J 0,.flt .f64 0])
def Dh_:VC:=⟨⟨[],[]⟩,[],[],0,true,[]⟩
def Cx_:VT:=Iq 64 2 65 (.done (.tup [.flt .f64 13898108450065350656,.bool true]))<|Iq 64 3 66 (.done (.tup [.flt .f64 13970166044103278592,.bool true]))<|Iq 64 4 67 (.done (.tup [.flt .f64 14114281232179134464,.bool true]))<|.done (.tup [.flt .f64 0,.bool false])
def C8_:VC:=⟨⟨[],[]⟩,[(159,[none,none]),(127,[none])],[],0,true,[]⟩
def Cn_:VT:=.call 159 [64] 66 [none,none]<|It Q3 [67] 68 (Dn [J 4])<|.call 127 [65] 69 [none]<|It (.bin .geq 44 false false) [69,66] 70 (Li Zb [66] 71<|It U2 [69,71] 72 (Li (.conv 44 2) [69] 73<|.done (.tup [73,J 0]))<|Dn [J 7])<|Dn [J 7]
def c84:VC:=⟨⟨[],[]⟩,[(127,[none])],[],0,true,[]⟩
def t84 (lo hi:Nat):VT:=
 (.call 127 [.sym 64] 65 [none]
 (.lt Zt [.sym 64,.sym 64] 66 none
 (.ite 66
  (.done (.tup [.int .i64 0,.int .i64 7]))
  (.lt (.bin .lss 44 false false) [.sym 65,.flt .f64 lo] 67 none
  (.ite 67
   (.done (.tup [.int .i64 0,.int .i64 7]))
   (.lt (.bin .geq 44 false false) [.sym 65,.flt .f64 hi] 68 none
   (.ite 68
    (.done (.tup [.int .i64 0,.int .i64 7]))
    (.lt (.conv 44 2) [.sym 65] 69 none
    (.done (.tup [.sym 69,.int .i64 0]))))))))))
def c50:VC:=⟨⟨[],[]⟩,[(55,[none]),(84,[none,none])],[],0,true,[]⟩
def t50:VT:=Iq 64 5 68 (Iq 65 5 69 (.done (.tup [.agg [65,66,67],J 0]))<|Iq 64 5 70 (Li Zg [66] 71<|.done (.tup [.agg [J 5,J 0,71],J 0]))<|Iq 65 5 71 (.call 84 [64,67] 72 [none,none]<|It Q5 [73,J 0] 74 (.done (.tup [.agg [J 0,J 0,.flt .f64 0],73]))<|.done (.tup [.agg [64,72,.flt .f64 0],J 0]))<|.call 55 [64,66] 72 [none]<|.done (.tup [.agg [64,72,.flt .f64 0],J 0]))<|Iq 64 5 69 (Li Zg [66] 70<|.done (.tup [.agg [J 5,J 0,70],J 0]))<|Iq 65 5 70 (.call 84 [64,67] 71 [none,none]<|It Q5 [72,J 0] 73 (.done (.tup [.agg [J 0,J 0,.flt .f64 0],72]))<|.done (.tup [.agg [64,71,.flt .f64 0],J 0]))<|.call 55 [64,66] 71 [none]<|.done (.tup [.agg [64,71,.flt .f64 0],J 0])
def c51:VC:=⟨⟨[],[]⟩,[(85,[none,none,none]),(87,[none,none]),(86,[(some 3)])],[],0,true,[]⟩
def t51:VT:=Iq 65 5 72 (.call 85 [64,68,71] 73 [none,none,none]<|It Q3 [75] 76 (.done (.tup [.agg [J 0,J 0,.flt .f64 0],J 4]))<|It Z1 [64,J 9] 77 (It Qw [64,J 12] 78 (.call 86 [74] 79 [(some 3)]<|.done (.tup [.agg [79,80,81],J 0]))<|.done (.tup [.agg [J 5,J 0,73],J 0]))<|.done (.tup [.agg [J 5,J 0,73],J 0]))<|.call 87 [64,65,67,70] 73 [none,none]<|It Q5 [74,J 0] 75 (.done (.tup [.agg [J 0,J 0,.flt .f64 0],74]))<|It Z1 [64,J 9] 76 (It Qw [64,J 12] 77 (.done (.tup [.agg [J 1,73,.flt .f64 0],J 0]))<|.done (.tup [.agg [65,73,.flt .f64 0],J 0]))<|.done (.tup [.agg [65,73,.flt .f64 0],J 0])
theorem vk_ (a:Option Nat):(XOp.un .neg).run Tryz.prog [fv a]=some (fv (a.map (Op.negFloat .f64))):=by cases a<;>rfl
theorem wc_ (t:TypeId) (cx cy:Bool) (a b:Option Nat):(XOp.bin .add t cx cy).run Tryz.prog [fv a,fv b]=some (fv (fI_ FloatKind.f64.format.add a b)):=by rw [u3_];rfl
theorem wh_ (t:TypeId) (cx cy:Bool) (a b:Option Nat):(XOp.bin .sub t cx cy).run Tryz.prog [fv a,fv b]=some (fv (fI_ FloatKind.f64.format.sub a b)):=by rw [u3_];rfl
theorem wf_ (t:TypeId) (cx cy:Bool) (a b:Option Nat):(XOp.bin .mul t cx cy).run Tryz.prog [fv a,fv b]=some (fv (fI_ FloatKind.f64.format.mul a b)):=by rw [u3_];rfl
theorem wg_ (t:TypeId) (cx cy:Bool) (a b:Option Nat):(XOp.bin .quo t cx cy).run Tryz.prog [fv a,fv b]=some (fv (fI_ FloatKind.f64.format.div a b)):=by rw [u3_];rfl
theorem wd_ (t:TypeId) (cx cy:Bool) (a b:Option Nat):(XOp.bin .eql t cx cy).run Tryz.prog [fv a,fv b]=some (.bool (ordF a b==some .eq)):=by rw [u3_];rfl
theorem ux_ (t:TypeId) (cx cy:Bool) (a b:Option Nat):(XOp.bin .neq t cx cy).run Tryz.prog [fv a,fv b]=some (.bool (ordF a b !=some .eq)):=by rw [u3_];rfl
theorem ut_ (t:TypeId) (cx cy:Bool) (a b:Option Nat):(XOp.bin .lss t cx cy).run Tryz.prog [fv a,fv b]=some (.bool (ordF a b==some .lt)):=by rw [u3_];rfl
theorem we_ (t:TypeId) (cx cy:Bool) (a b:Option Nat):(XOp.bin .leq t cx cy).run Tryz.prog [fv a,fv b]=some (.bool (ordF a b==some .lt||ordF a b==some .eq)):=by rw [u3_];rfl
theorem xK_ (t:TypeId) (cx cy:Bool) (a b:Option Nat):(XOp.bin .geq t cx cy).run Tryz.prog [fv a,fv b]=some (.bool (ordF a b==some .gt||ordF a b==some .eq)):=by rw [u3_];rfl
def OpR (op:Int):Prop:=(4<=op/\op<=7)\/op=16\/(9<=op/\op<=12)
def wa_ (op:Int) (a b:Option Nat):Option Nat:=
 if op=4 then fI_ FloatKind.f64.format.add a b else if op=5 then fI_ FloatKind.f64.format.sub a b else if op=6 then fI_ FloatKind.f64.format.mul a b else if op=7 then fI_ FloatKind.f64.format.div a b
 else if op=16 then a.map (Op.negFloat .f64)else some 0
def xe_ (op:Int) (a b:Option Nat):Bool:=if 9<=op/\op<=12 then B2_ op (ordF a b)else false
theorem wI_ {op:Int} {a b:Option Nat} (h:OpR op):wb_ op a b=if 9<=op/\op<=12 then ⟨1,tI (xe_ op a b),some 0⟩else ⟨5,0,wa_ op a b⟩:=by rcases (by unfold OpR at h;omega:op=4\/op=5\/op=6\/op=7\/op=16\/op=9\/op=10\/op=11\/op=12)with rfl|rfl|rfl|rfl|rfl|rfl|rfl|rfl|rfl<;>rfl
theorem BY_ (f:Option Nat) (b c:Bool):aX_ (.tup [fv f,.bool b,.bool c])=true:=by cases f<;>rfl
theorem DI_ (k:Int) (f:Option Nat):okL [.int .i64 k,fv f]=true:=by cases f<;>rfl
theorem Ao_ (op:Int) (a b:Option Nat):okL [.int .i64 op,fv a,fv b]=true:=by cases a<;>cases b<;>rfl
theorem yK_ (op:Int) (a b:Option Nat) (h:OpR op):kH_ Tryz.prog 124 [.int .i64 op,fv a,fv b] (.tup [fv (wa_ op a b),.bool (xe_ op a b),.bool true]):=by
 unfold OpR at h;refine t6_ (sh:=[none,none,none]) (ls:=[.int .i64 op,fv a,fv b]) (c:=Da_) (n:=300) (t:=Cp_) mo ov rfl (Ao_ ..) (BY_ ..) (λY _=>vC_ _) rfl (by kernel_rfl) λY hf hg=>?_;unfold Cp_
 (refine a_ rfl rfl ?_ ?_<;>intro h<;>simp only [nc]at h<;>try omega)
 .subst op;(first
             |exact vv_ (wc_ ..) (vM_ _) (uH_ (by rfl))
             |exact vv_ (wc_ ..) rfl (uH_ (by rfl)))
 (refine a_ rfl rfl ?_ ?_<;>intro h<;>simp only [nc]at h<;>try omega)
 .subst op;(first
             |exact vv_ (wh_ ..) (vM_ _) (uH_ (by rfl))
             |exact vv_ (wh_ ..) rfl (uH_ (by rfl)))
 (refine a_ rfl rfl ?_ ?_<;>intro h<;>simp only [nc]at h<;>try omega)
 .subst op;(first
             |exact vv_ (wf_ ..) (vM_ _) (uH_ (by rfl))
             |exact vv_ (wf_ ..) rfl (uH_ (by rfl)))
 (refine a_ rfl rfl ?_ ?_<;>intro h<;>simp only [nc]at h<;>try omega)
 .subst op;(first
             |exact vv_ (wg_ ..) (vM_ _) (uH_ (by rfl))
             |exact vv_ (wg_ ..) rfl (uH_ (by rfl)))
 (refine a_ rfl rfl ?_ ?_<;>intro h<;>simp only [nc]at h<;>try omega)
 .subst op;(first
             |exact vv_ (vk_ ..) (vM_ _) (uH_ (by rfl))
             |exact vv_ (vk_ ..) rfl (uH_ (by rfl)))
 (refine a_ rfl rfl ?_ ?_<;>intro h<;>simp only [nc]at h<;>try omega)
 .subst op;(first
             |exact vv_ (wd_ ..) (vM_ _) (uH_ (by rfl))
             |exact vv_ (wd_ ..) rfl (uH_ (by rfl)))
 (refine a_ rfl rfl ?_ ?_<;>intro h<;>simp only [nc]at h<;>try omega)
 .subst op;(first
             |exact vv_ (ux_ ..) (vM_ _) (uH_ (by rfl))
             |exact vv_ (ux_ ..) rfl (uH_ (by rfl)))
 (refine a_ rfl rfl ?_ ?_<;>intro h<;>simp only [nc]at h<;>try omega)
 .subst op;(first
             |exact vv_ (ut_ ..) (vM_ _) (uH_ (by rfl))
             |exact vv_ (ut_ ..) rfl (uH_ (by rfl)))
 (refine a_ rfl rfl ?_ ?_<;>intro h<;>simp only [nc]at h<;>try omega)
 subst op;(first
            |exact vv_ (we_ ..) (vM_ _) (uH_ (by rfl))
            |exact vv_ (we_ ..) rfl (uH_ (by rfl)))
theorem p85 (op:Int) (a b:Option Nat) (h:OpR op):kH_ Tryz.prog 85 [.int .i64 op,fv a,fv b] (.tup [fv (wa_ op a b),.bool (xe_ op a b),.bool true]):=by
 unfold OpR at h;refine t6_ (sh:=[none,none,none]) (ls:=[.int .i64 op,fv a,fv b]) (c:=c85) (n:=300) (t:=t85) mo ov rfl (Ao_ ..) (BY_ ..) (λY _=>vC_ _) rfl (by kernel_rfl) λY hf hg=>?_;unfold t85
 (refine a_ rfl rfl ?_ ?_<;>intro h<;>simp only [nc]at h<;>try omega)
 .subst op;(first
             |exact vv_ (wc_ ..) (vM_ _) (uH_ (by rfl))
             |exact vv_ (wc_ ..) rfl (uH_ (by rfl)))
 (refine a_ rfl rfl ?_ ?_<;>intro h<;>simp only [nc]at h<;>try omega)
 .subst op;(first
             |exact vv_ (wh_ ..) (vM_ _) (uH_ (by rfl))
             |exact vv_ (wh_ ..) rfl (uH_ (by rfl)))
 (refine a_ rfl rfl ?_ ?_<;>intro h<;>simp only [nc]at h<;>try omega)
 .subst op;(first
             |exact vv_ (wf_ ..) (vM_ _) (uH_ (by rfl))
             |exact vv_ (wf_ ..) rfl (uH_ (by rfl)))
 (refine a_ rfl rfl ?_ ?_<;>intro h<;>simp only [nc]at h<;>try omega)
 .subst op;(first
             |exact vv_ (wg_ ..) (vM_ _) (uH_ (by rfl))
             |exact vv_ (wg_ ..) rfl (uH_ (by rfl)))
 (refine a_ rfl rfl ?_ ?_<;>intro h<;>simp only [nc]at h<;>try omega)
 .subst op;(first
             |exact vv_ (vk_ ..) (vM_ _) (uH_ (by rfl))
             |exact vv_ (vk_ ..) rfl (uH_ (by rfl)))
 (refine a_ rfl rfl ?_ ?_<;>intro h<;>simp only [nc]at h<;>try omega)
 .subst op;(first
             |exact vv_ (wd_ ..) (vM_ _) (uH_ (by rfl))
             |exact vv_ (wd_ ..) rfl (uH_ (by rfl)))
 (refine a_ rfl rfl ?_ ?_<;>intro h<;>simp only [nc]at h<;>try omega)
 .subst op;(first
             |exact vv_ (ux_ ..) (vM_ _) (uH_ (by rfl))
             |exact vv_ (ux_ ..) rfl (uH_ (by rfl)))
 (refine a_ rfl rfl ?_ ?_<;>intro h<;>simp only [nc]at h<;>try omega)
 .subst op;(first
             |exact vv_ (ut_ ..) (vM_ _) (uH_ (by rfl))
             |exact vv_ (ut_ ..) rfl (uH_ (by rfl)))
 (refine a_ rfl rfl ?_ ?_<;>intro h<;>simp only [nc]at h<;>try omega)
 subst op;(first
            |exact vv_ (we_ ..) (vM_ _) (uH_ (by rfl))
            |exact vv_ (we_ ..) rfl (uH_ (by rfl)))
theorem p86 (b:Bool):kH_ Tryz.prog 86 [.bool b] (.agg (d_ ⟨1,tI b,some 0⟩)):=by refine t6_ (sh:=[none]) (ls:=[.bool b]) (c:=c86) (n:=300) (t:=t86) mo ov rfl rfl rfl (λY _=>vC_ _) rfl (by kernel_rfl) λY hf hg=>?_;unfold t86;cases b;exact ve_ (t:=false) rfl (λh=>by cases h) (λh=>uH_ rfl);exact ve_ (t:=true) rfl (λh=>uH_ rfl) (λh=>by cases h)
theorem DQ_ {k:Int} (h:2<=k/\k<=4):kH_ Tryz.prog 159 [.int .i64 k] (.tup [fv (some (loK k)),.bool true]):=by
 refine t6_ (sh:=[none]) (ls:=[.int .i64 k]) (c:=Dh_) (n:=300) (t:=Cx_) mo ov rfl rfl rfl (λY _=>vC_ _) rfl (by kernel_rfl) λY hf hg=>?_;unfold Cx_
 (refine a_ rfl rfl ?_ ?_<;>intro h<;>simp only [nc]at h<;>try omega)
 subst k;exact uH_ rfl
 (refine a_ rfl rfl ?_ ?_<;>intro h<;>simp only [nc]at h<;>try omega)
 subst k;exact uH_ rfl
 (refine a_ rfl rfl ?_ ?_<;>intro h<;>simp only [nc]at h<;>try omega)
 subst k;exact uH_ rfl
theorem zi_ {k:Int} (h:2<=k/\k<=4):Op.negFloat .f64 (loK k)=hiK k:=by rcases (by omega:k=2\/k=3\/k=4)with rfl|rfl|rfl<;>kernel_rfl
def lF_ (k:Int) (f:Option Nat):Int:=(A_ k f).getD 0
def J_ (k:Int) (f:Option Nat):Int:=if (A_ k f).isSome then 0 else 7
theorem cvW {k:Int} {f:Option Nat} {n:Int} (h:2<=k/\k<=4) (hn:A_ k f=some n):(XOp.conv 44 2).run Tryz.prog [fv (ui_ f)]=some (.int .i64 n):=by
 have hi:=(xg_ h hn).i64;unfold A_ at hn;split at hn;· cases hn
 split at hn;· cases hn
 split at hn;exact ua_ Tryz.underlying44 Tryz.underlying2 hn hi.1 hi.2;cases hn
theorem wX_ {k:Int} {f:Option Nat} (h:2<=k/\k<=4) (h0:nX_ f=false) (h1:ordF (ui_ f) (some (loK k))≠some .lt) (h2:ordF (ui_ f) (some (hiK k))=some .lt):∃n,A_ k f=some n:=by unfold A_;rw [h0,if_neg (by decide),if_neg h1,if_pos h2];rcases (by omega:k=2\/k=3\/k=4)with rfl|rfl|rfl;obtain ⟨m,e,a,b⟩:=tg_ (k:=15) (j:= -37) rfl (by kernel_rfl) (by kernel_rfl) h1 h2;exact ⟨m,e⟩;obtain ⟨m,e,a,b⟩:=tg_ (k:=31) (j:= -21) rfl (by kernel_rfl) (by kernel_rfl) h1 h2;exact ⟨m,e⟩;obtain ⟨m,e,a,b⟩:=tg_ (k:=63) (j:=11) rfl (by kernel_rfl) (by kernel_rfl) h1 h2;exact ⟨m,e⟩
theorem zh_ {k:Int} (h:2<=k/\k<=4):nX_ (some (loK k))=false/\nX_ (some (hiK k))=false:=by rcases (by omega:k=2\/k=3\/k=4)with rfl|rfl|rfl<;>exact ⟨by kernel_rfl,by kernel_rfl⟩
theorem wW_ {k:Int} {f:Option Nat} {n:Int} (h:A_ k f=some n):AV.tup [.int .i64 n,.int .i64 0]=.tup [.int .i64 (lF_ k f),.int .i64 (J_ k f)]:=by unfold lF_ J_;rw [h];rfl
theorem sh_ {k:Int} {f:Option Nat} (h:A_ k f=none):AV.tup [.int .i64 0,.int .i64 7]=.tup [.int .i64 (lF_ k f),.int .i64 (J_ k f)]:=by unfold lF_ J_;rw [h];rfl
theorem zn_ {k:Int} (h:2<=k/\k<=4) {f:Option Nat} (hn:nX_ f=false):(ordF (ui_ f) (some (loK k))==some .gt||ordF (ui_ f) (some (loK k))==some .eq)= !(ordF (ui_ f) (some (loK k))==some .lt):=by obtain ⟨o,e⟩:=uC_ (a:=ui_ f) (b:=some (loK k)) (by rw [uj_];exact hn) (zh_ h).1;rw [e];cases o<;>rfl
theorem zm_ {k:Int} (h:2<=k/\k<=4) {f:Option Nat} (hn:nX_ f=false):(ordF (ui_ f) (some (hiK k))==some .gt||ordF (ui_ f) (some (hiK k))==some .eq)= !(ordF (ui_ f) (some (hiK k))==some .lt):=by obtain ⟨o,e⟩:=uC_ (a:=ui_ f) (b:=some (hiK k)) (by rw [uj_];exact hn) (zh_ h).2;rw [e];cases o<;>rfl
theorem DN_ {k:Int} (h:2<=k/\k<=4) (f:Option Nat):kH_ Tryz.prog 122 [.int .i64 k,fv f] (.tup [.int .i64 (lF_ k f),.int .i64 (J_ k f)]):=by
 refine t6_ (sh:=[none,none]) (ls:=[.int .i64 k,fv f]) (c:=C8_) (n:=300) (t:=Cn_) mo ov rfl (DI_ ..) rfl (λY _=>vC_ _) rfl (by kernel_rfl) λY hf hg=>?_;unfold Cn_;refine uG_ (DQ_ h) rfl rfl (vv_ rfl rfl (ve_ (t:=false) rfl (λh=>by cases h) (λ_=>?_)));refine uG_ (B7_ f) rfl (by simp only [okL,vM_]) (vv_ (xK_ ..) rfl (ve_ rfl (λh1=>?_) (λh1=>?_)))
 .refine vv_ (vk_ ..) (vM_ _) (vv_ (ut_ ..) rfl (ve_ rfl (λh2=>?_) (λh2=>?_)))
  .have h2:(ordF (ui_ f) (some (Op.negFloat .f64 (loK k)))==some .lt)=true:=h2;rw [zi_ h]at h2;have hn:nX_ f=false:=by
    cases hc:nX_ f with
    |false=>rfl
    |true=>rw [uX_ (by rw [uj_];exact hc)]at h2;cases h2
   rw [zn_ h hn]at h1;obtain ⟨n,hw⟩:=wX_ h hn (λe=>by rw [e]at h1;cases h1) (by simpa using h2);exact vv_ (cvW h hw) rfl (uH_ (wW_ hw))
  .have h2:(ordF (ui_ f) (some (Op.negFloat .f64 (loK k)))==some .lt)=false:=h2;rw [zi_ h]at h2;refine uH_ (sh_ ?_);unfold A_;split;· rfl
   split;· rfl
   split;rename_i e;rw [e]at h2;cases h2;rfl
 .refine uH_ (sh_ ?_);unfold A_;split;· rfl
  rename_i hn;have hn:nX_ f=false:=(by simpa using hn);rw [zn_ h hn]at h1;rw [if_pos (by simpa using h1)]
theorem zk_ (f:Option Nat):okL [fv f]=true:=by cases f<;>rfl
theorem zl_ (k:Int) (f:Option Nat):mI_ [.int .i64 k,fv f]=true:=by cases f<;>rfl
theorem wH_ (f:Option Nat):(ordF f f !=some .eq)=nX_ f:=by show (!(ordF f f==some .eq))=_;rw [uB_,Bool.not_not]
theorem v84 {k:Int} (h:2<=k/\k<=4) (f:Option Nat) {Y:Sy} {L:List (Nat->List AV->Prop)}:VOK Tryz.prog (· =.tup [.int .i64 (lF_ k f),.int .i64 (J_ k f)]) L (Y.puts 64 [fv f]) (t84 (loK k) (hiK k)):=by unfold t84;refine uG_ (B7_ f) rfl (zk_ _) (vv_ (ux_ ..) rfl (ve_ rfl (λh1=>?_) (λh1=>?_)));rw [wH_]at h1;refine uH_ (sh_ ?_);unfold A_;rw [if_pos h1];rw [wH_]at h1;refine vv_ (ut_ _ _ _ (ui_ f) (some (loK k))) rfl (ve_ rfl (λh2=>?_) (λh2=>?_));refine uH_ (sh_ ?_);unfold A_;rw [h1,if_neg (by decide),if_pos (by simpa using h2)];refine vv_ (xK_ _ _ _ (ui_ f) (some (hiK k))) rfl (ve_ rfl (λh3=>?_) (λh3=>?_));refine uH_ (sh_ ?_);rw [zm_ h h1]at h3;unfold A_;rw [h1,if_neg (by decide),if_neg (by simpa using h2),if_neg (by simpa using h3)];rw [zm_ h h1]at h3;obtain ⟨n,hw⟩:=wX_ h h1 (by simpa using h2) (by simpa using h3);exact vv_ (cvW h hw) rfl (uH_ (wW_ hw))
theorem p84 {k:Int} (h:2<=k/\k<=4) (f:Option Nat):kH_ Tryz.prog 84 [.int .i64 k,fv f] (.tup [.int .i64 (lF_ k f),.int .i64 (J_ k f)]):=by rcases (by omega:k=2\/k=3\/k=4)with rfl|rfl|rfl;exact uY_ (args':=[.int .i64 2,.sym 64]) (ls:=[fv f]) (c:=c84) (n:=300) (t:=t84 (loK 2) (hiK 2)) mo ov (zl_ ..) rfl (zk_ ..) rfl (λY _=>rfl) (λY _=>vC_ _) rfl (by kernel_rfl) λY hf hg=>v84 h f;exact uY_ (args':=[.int .i64 3,.sym 64]) (ls:=[fv f]) (c:=c84) (n:=300) (t:=t84 (loK 3) (hiK 3)) mo ov (zl_ ..) rfl (zk_ ..) rfl (λY _=>rfl) (λY _=>vC_ _) rfl (by kernel_rfl) λY hf hg=>v84 h f;exact uY_ (args':=[.int .i64 4,.sym 64]) (ls:=[fv f]) (c:=c84) (n:=300) (t:=t84 (loK 4) (hiK 4)) mo ov (zl_ ..) rfl (zk_ ..) rfl (λY _=>rfl) (λY _=>vC_ _) rfl (by kernel_rfl) λY hf hg=>v84 h f
theorem DK_ (k:Int) (v:FV):okL ([.int .i64 k]++d_ v)=true:=by show okL (.int .i64 k::d_ v)=true;rw [a1_];exact okV v
theorem AY_ (v:FV) (e:Int):okL (d_ v++[.int .i64 e])=true:=kS_.okL_join (okV v) rfl
theorem ys_ (v:FV) (e:Int):aX_ (.tup [.agg (d_ v),.int .i64 e])=true:=by rcases v with ⟨k,i,f⟩;cases f<;>rfl
def wy_ (k:Int) (v:FV):FV:=match w_ k v with
 | .ok w=>w
 | .error _=>FV.z
def wx_ (k:Int) (v:FV):Int:=match w_ k v with
 | .ok _=>0
 | .error e=>e
theorem v3_ {k:Int} {v w:FV} (h:w_ k v=.ok w):wy_ k v=w/\wx_ k v=0:=by unfold wy_ wx_;rw [h];exact ⟨rfl,rfl⟩
theorem yd_ {k e:Int} {v:FV} (h:w_ k v=.error e):wy_ k v=FV.z/\wx_ k v=e:=by unfold wy_ wx_;rw [h];exact ⟨rfl,rfl⟩
theorem yu_ (i:Int):(XOp.conv 2 44).run Tryz.prog [.int .i64 i]=some (fv (some (FloatKind.f64.nearest i))):=rfl
theorem p50 {k:Int} (h:2<=k/\k<=5) (v:FV) (hv:1<=v.k/\v.k<=5):kH_ Tryz.prog 50 [.int .i64 k,.agg (d_ v)] (.tup [.agg (d_ (wy_ k v)),.int .i64 (wx_ k v)]):=by
 refine t6_ (sh:=[none,some 3]) (ls:=[.int .i64 k]++d_ v) (c:=c50) (n:=300) (t:=t50) mo ov rfl (DK_ ..) (ys_ ..) (λY _=>vC_ _) rfl (by kernel_rfl) λY hf hg=>?_;unfold t50;have fin:∀{w:FV} {e:Int},wy_ k v=w/\wx_ k v=e->AV.tup [.agg (d_ w),.int .i64 e]=.tup [.agg (d_ (wy_ k v)),.int .i64 (wx_ k v)]:=λ⟨h1,h2⟩=>by rw [h1,h2]
 (refine a_ rfl rfl ?_ ?_<;>intro h<;>simp only [nc]at h<;>try omega)
 .have e5:=h;subst e5
  (refine a_ rfl rfl ?_ ?_<;>intro h<;>simp only [nc]at h<;>try omega)
  exact uH_ (fin (v3_ (by unfold w_;rw [if_pos rfl,if_pos ‹v.k=5›])))
  ·(refine a_ rfl rfl ?_ ?_<;>intro h<;>simp only [nc]at h<;>try omega)
   refine vv_ (yu_ _) rfl (uH_ (fin (w:=⟨5,0,some (FloatKind.f64.nearest v.i)⟩) (v3_ (by unfold w_;rw [if_pos rfl,if_neg ‹¬v.k=5›]))))
 have hk:2<=k/\k<=4:=by omega
 (refine a_ rfl rfl ?_ ?_<;>intro h<;>simp only [nc]at h<;>try omega)
 (refine a_ rfl rfl ?_ ?_<;>intro h<;>simp only [nc]at h<;>try omega)
 .have h5:=h;refine uG_ (p84 hk v.f) rfl rfl ?_;cases hw:A_ k v.f with
  |some n=>
   have e1:J_ k v.f=0:=(by unfold J_;rw [hw];rfl);have e2:lF_ k v.f=n:=(by unfold lF_;rw [hw];rfl);rw [e1,e2]
   (refine a_ rfl rfl ?_ ?_<;>intro h<;>simp only [nc]at h<;>try omega)
   exact uH_ (fin (w:=⟨k,n,some 0⟩) (v3_ (by unfold w_;rw [if_neg (by omega),if_pos h5,hw])))
  |none=>
   have e1:J_ k v.f=7:=(by unfold J_;rw [hw];rfl);rw [e1]
   (refine a_ rfl rfl ?_ ?_<;>intro h<;>simp only [nc]at h<;>try omega)
   exact uH_ (fin (w:=FV.z) (yd_ (by unfold w_;rw [if_neg (by omega),if_pos h5,hw])))
 have h5:=h;refine uG_ (p55 (by omega) _) rfl rfl (uH_ (fin (w:=⟨k,x_ k v.i,some 0⟩) (v3_ (by unfold w_;rw [if_neg (by omega),if_neg h5]))))
end Go.Proofs.YtjconanknjgpnaaGreat.vars
set_option linter.unusedVariables false
set_option linter.unusedSimpArgs false
namespace Go.Proofs.YtjconanknjgpnaaGreat.vars
open Go Go.Sx
def vY_:List Int:=[2,1,2,1,2,3,5,4,2,2,2,2,1,4,1,4,1,2,1,1,1]
def MemOk (mem:List FV):Prop:=mem.map FV.k=vY_/\∀v∈mem,TV v
def cell (mem:List FV) (n:Int):FV:=mem.getD n.toNat FV.z
def wz_ (mem:List FV) (op kd ad n:Int) (a b:FV):Except Int FV:=
 if op=3 then (if a.i<0\/n<=a.i then .error 6 else .ok (cell mem (ad+a.i)))
 else if op=17 then w_ kd a
 else if opE op a.k b=0 then .ok (opV op a.k a b)else .error (opE op a.k b)
mutual
def yg_ (mem:List FV):GX->Except Int FV
 | .mk op kd nm fd ad n vk vi vf args=>if op=1 then .ok ⟨vk,vi,some vf⟩else if op=2 then .ok (cell mem ad)else match yf_ mem args with
   | .error e=>.error e
   | .ok l=>wz_ mem op kd ad n (l.headD FV.z) (l.getLastD FV.z)
def yf_ (mem:List FV):List GX->Except Int (List FV)
 |[]=>.ok []
 |a::r=>match yg_ mem a with
  | .error e=>.error e
  | .ok v=>match yf_ mem r with
    | .error e=>.error e
    | .ok l=>.ok (v::l)
end
section
variable {mem:List FV}
theorem MemOk.len (h:MemOk mem):mem.length=21:=by have:=congrArg List.length h.1;rw [List.length_map]at this;exact this
theorem yc_ {n:Nat} (h:n<mem.length):cell mem (n:Int)=mem[n]:=by unfold cell;rw [Int.toNat_natCast,List.getD_eq_getElem?_getD,List.getElem?_eq_getElem h];rfl
theorem MemOk.cell (h:MemOk mem) {n:Int} (h1:0<=n) (h2:n<21):TV (cell mem n)/\(cell mem n).k=vY_.getD n.toNat 0:=by
 obtain ⟨m,rfl⟩:∃m:Nat,n=(m:Int):=⟨n.toNat,by omega⟩;have hl:=h.len;have hm:m<mem.length:=by omega
 rw [yc_ hm];refine ⟨h.2 _ (List.getElem_mem hm),?_⟩;have:vY_=mem.map FV.k:=h.1.symm;rw [this,Int.toNat_natCast,List.getD_eq_getElem?_getD,List.getElem?_map,List.getElem?_eq_getElem hm];rfl
theorem cells_k:∀t∈u6_,0<=t.1/\t.1<21/\vY_.getD t.1.toNat 0=t.2:=by decide
theorem I_ {vs:List FV} {k:Int} (h:vs.map FV.k=[k]):∃a,vs=[a]/\a.k=k:=by
 match vs,h with
 |[],h=>cases h
 |[a],h=>exact ⟨a,rfl,by simpa using h⟩
 |_::_::_,h=>simp at h
theorem rI_ {vs:List FV} {k l:Int} (h:vs.map FV.k=[k,l]):∃a b,vs=[a,b]/\a.k=k/\b.k=l:=by
 match vs,h with
 |[],h=>cases h
 |[a],h=>simp at h
 |[a,b],h=>exact ⟨a,b,rfl,by simpa using h⟩
 |_::_::_::_,h=>simp at h
theorem zf_ {d:Nat} {op kd:Int} {nm fd:List UInt8} {ad n vk vi:Int} {vf:Nat} {args:List GX} (h:TX (d+1) (.mk op kd nm fd ad n vk vi vf args)) (h1:op=1):TV ⟨vk,vi,some vf⟩/\vk=kd:=by obtain ⟨q1,q2,q3,q4,q5,q6,q7,q8⟩:=h.2.2.2.2.1.1 h1;refine ⟨⟨?_,λh=>by rw [q8 h]⟩,q1.symm⟩;show InK vk vi;unfold InK;omega
theorem w9_ {k e:Int} {v:FV} (h:w_ k v=.error e):e=7:=by
 unfold w_ at h;split at h
 .split at h<;>cases h
 split at h;split at h;cases h;cases h;rfl;cases h
end
end Go.Proofs.YtjconanknjgpnaaGreat.vars
set_option maxRecDepth 100000
set_option linter.unusedVariables false
set_option linter.unusedSimpArgs false
namespace Go.Proofs.YtjconanknjgpnaaGreat.vars
open Go Go.Sx
def c_ (l:List FV):AV:=a5_ d_ 3 l
theorem aM_ (l:List FV):okC (c_ l)=true:=by
 unfold c_;cases l with
 |nil=>rfl
 |cons a r=>simp only [a5_,okC];exact kS_ okV (a::r)
theorem uy_ (l:List FV):(XOp.len 31).run Tryz.prog [c_ l]=some (.int .i64 (l.length:Int)):=uc_ Tryz.underlying31 l
theorem qR_ (l:List FV) {i:Nat} (h:i<l.length):(XOp.iaddr 31).run Tryz.prog [c_ l,.int .i64 (i:Int)]=some (.vptr (aR_ d_ (l.drop i))):=
 run_iaddr_sl (e:=46) (ti:=(Tryz.prog.info? 46).get!) Tryz.underlying31 (by kernel_rfl) (by kernel_rfl) us_ h .i64
theorem qV_ (l:List FV) {i:Nat} (h:i<l.length):(XOp.load 46).run Tryz.prog [.vptr (aR_ d_ (l.drop i))]=some (.agg (d_ l[i])):=
 run_load_agg (ti:=(Tryz.prog.info? 46).get!) Tryz.underlying46 rfl (by kernel_rfl) (by kernel_rfl) us_ h
def opW (op k:Int) (a b:FV):FV:=if opE op k b=0 then opV op k a b else FV.z
theorem v7_ {op:Int} (h:OpK op 5):OpR op:=by unfold OpK at h;unfold OpR;omega
theorem p51 {op k:Int} {a b:FV} (ho:OpK op k) (ha:TV a) (hk:a.k=k):kH_ Tryz.prog 51 [.int .i64 op,.int .i64 k,.agg (d_ a),.agg (d_ b)] (.tup [.agg (d_ (opW op k a b)),.int .i64 (opE op k b)]):=by
 have hok:okL ([.int .i64 op,.int .i64 k]++(d_ a++d_ b))=true:=kS_.okL_join (a:=[_,_]) rfl (kS_.okL_join (okV a) (okV b));refine t6_ (sh:=[none,none,some 3,some 3]) (ls:=[.int .i64 op,.int .i64 k]++(d_ a++d_ b)) (c:=c51) (n:=300) (t:=t51) mo ov rfl hok (ys_ ..) (λY _=>vC_ _) rfl (by kernel_rfl) λY hf hg=>?_;unfold t51;have fin:∀{w:FV} {e:Int},opW op k a b=w->opE op k b=e->AV.tup [.agg (d_ w),.int .i64 e]=.tup [.agg (d_ (opW op k a b)),.int .i64 (opE op k b)]:=λh1 h2=>by rw [h1,h2]
 (refine a_ rfl rfl ?_ ?_<;>intro h<;>simp only [nc]at h<;>try omega)
 .subst h;have hr:=v7_ ho;have he:opE op 5 b=0:=rfl;have hw:opW op 5 a b=wb_ op a.f b.f:=(by unfold opW opV;rw [if_pos he,if_pos rfl]);rw [wI_ hr]at hw;refine uG_ (p85 op a.f b.f hr) rfl (by simp only [okL,okC,vM_]) (vv_ rfl rfl (ve_ (t:=false) rfl (λh=>by cases h) (λ_=>?_)))
  (refine a_ rfl rfl ?_ ?_<;>intro h<;>simp only [nc]at h<;>try omega)
  ·(refine a_ rfl rfl ?_ ?_<;>intro h<;>simp only [nc]at h<;>try omega)
   rw [if_pos (by omega)]at hw;exact uG_ (p86 _) rfl rfl (uH_ (fin hw he));rw [if_neg (by omega)]at hw;exact uH_ (fin hw he)
  rw [if_neg (by omega)]at hw;exact uH_ (fin hw he)
 have h5:=h;refine uG_ (p87 op k a.i b.i ho h5 (hk▸ha.1)) rfl rfl ?_;have he:opE op k b=F_ op b.i:=by unfold opE;rw [if_neg h5]
 (refine a_ rfl rfl ?_ ?_<;>intro h<;>simp only [nc]at h<;>try omega)
 have h0:=h;exact uH_ (fin (w:=FV.z) (by unfold opW;rw [he,if_neg h0]) he);have h0:=h;have hi:k_ op k a.i b.i=Z_ op k a.i b.i:=by unfold k_;rw [if_pos h0]
 have hw:opW op k a b=⟨if 9<=op/\op<=12 then 1 else k,k_ op k a.i b.i,some 0⟩:=by unfold opW opV;rw [he,if_pos h0,if_neg h5,hi]
 rw [h0]at he
 (refine a_ rfl rfl ?_ ?_<;>intro h<;>simp only [nc]at h<;>try omega)
 ·(refine a_ rfl rfl ?_ ?_<;>intro h<;>simp only [nc]at h<;>try omega)
  rw [if_pos (by omega)]at hw;exact uH_ (fin hw he);rw [if_neg (by omega)]at hw;exact uH_ (fin hw he)
 rw [if_neg (by omega)]at hw;exact uH_ (fin hw he)
def RE0 (e:Int):Nat->List AV->Prop:=λj ws=>(j=0/\e=0/\ws=[])\/(j=1/\e≠0/\ws=[.int .i64 e])
def opX (op:Int) (a b:FV):Except Int FV:=if opE op a.k b=0 then .ok (opV op a.k a b)else .error (opE op a.k b)
end Go.Proofs.YtjconanknjgpnaaGreat.vars
set_option maxRecDepth 100000
set_option linter.unusedVariables false
set_option linter.unusedSimpArgs false
namespace Go.Proofs.YtjconanknjgpnaaGreat.vars
open Go Go.Sx
theorem wT_ (l:List FV) (s:FV) (hl:l.length<=100000):(XOp.app 3 24).run Tryz.prog [c_ l,.agg (d_ s)]=some (c_ (l++[s])):=
 t9_ us_ (by decide) (by decide) l s (by omega)
theorem A1_ {op:Int} {a:FV} (b c:FV) (h:op=15\/op=16) (ho:OpK op a.k):opX op a b=opX op a c:=by
 have e:∀d:FV,opE op a.k d=0:=λd=>by unfold opE;split;rfl;exact Q_ (by omega)
 have v:opV op a.k a b=opV op a.k a c:=by
  unfold opV;split;rename_i h5;have h16:op=16:=(by unfold OpK at ho;omega);subst h16;rfl
  .rcases h with rfl|rfl<;>rfl
 unfold opX;rw [if_pos (e b),if_pos (e c),v]
end Go.Proofs.YtjconanknjgpnaaGreat.vars
set_option linter.unusedVariables false
set_option linter.unusedSimpArgs false
namespace Go.Sx
section
variable {P:Program} {t:TypeId} {ti:TypeInfo} {α:Type} {enc:α->List AV} {w:Nat}
theorem run_ldx1 {d:TypeDesc} (ht:P.underlying t=some d) (ha:lI_ d=false) (hw:∀a,(enc a).length=w) {l:List α} {i:Nat} (hi:i<l.length) {off:Nat} {v:AV} {p r:List AV} (he:enc l[i]=p++(v::r)) (hp:p.length=off) (k:IntKind):(XOp.ldx t w off).run P [a5_ enc w l,.int k (i:Int)]=some v:=by
 obtain ⟨a,b,e1,e2,_⟩:=xX_ hw l hi;obtain ⟨x0,l',rfl⟩:∃x l',l=x::l':=by cases l with|nil=>simp at hi|cons x l'=>exact ⟨x,l',rfl⟩
 show bl_ P (rC_ (aR_ enc (x0::l'))) t (.ptr 0 (i*w+off))=_;unfold bl_;simp only [ht,ha];have hg:(rC_ (aR_ enc (x0::l'))).get 0=some (.cells (aR_ enc (x0::l'))):=rfl;unfold aU_;simp only [hg];have hd:ak_ (i*w+off) (aR_ enc (x0::l'))=v::(r++b):=by rw [aB_,e1,he,←e2,←hp];rw [show a++(p++v::r++b)=(a++p)++(v::(r++b)) by simp [List.append_assoc]];rw [←List.length_append,List.drop_left]
 rw [hd];rfl
theorem run_ldxN {d:TypeDesc} (ht:P.underlying t=some d) (ha:lI_ d=true) (hinf:P.info? t=some ti) (hs:ti.size=w) (hw:∀a,(enc a).length=w) {l:List α} {i:Nat} (hi:i<l.length) (k:IntKind):(XOp.ldx t w 0).run P [a5_ enc w l,.int k (i:Int)]=some (.agg (enc l[i])):=by
 obtain ⟨a,b,e1,e2,_⟩:=xX_ hw l hi;obtain ⟨x0,l',rfl⟩:∃x l',l=x::l':=by cases l with|nil=>simp at hi|cons x l'=>exact ⟨x,l',rfl⟩
 show bl_ P (rC_ (aR_ enc (x0::l'))) t (.ptr 0 (i*w+0))=_;unfold bl_;simp only [ht,ha,hinf];have hg:(rC_ (aR_ enc (x0::l'))).get 0=some (.cells (aR_ enc (x0::l'))):=rfl;unfold aU_;simp only [hg];have hd:ak_ (i*w+0) (aR_ enc (x0::l'))=enc (x0::l')[i]++b:=by rw [aB_,e1,Nat.add_zero,←e2,List.drop_left]
 have hl:ti.size=(enc (x0::l')[i]).length:=by rw [hs,hw]
 rw [hd,hl,cC_]
end
end Go.Sx
