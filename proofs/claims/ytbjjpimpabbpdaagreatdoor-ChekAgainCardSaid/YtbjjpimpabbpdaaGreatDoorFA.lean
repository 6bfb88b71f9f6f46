/-
  A symbol as a number, a number as a value: short names for trees.
-/
import Derived.Test.YtbjjpimpabbpdaaGreatDoorSyK
import Derived.Test.YtbjjpimpabbpdaaGreatDoorRows
import Derived.KernelRfl
import Derived.Test.YtbjjpimpabbpdaaGreatDoorSyD
import Derived.Test.YtbjjpimpabbpdaaGreatDoorSyS
namespace Go.Proofs.YtbjjpimpabbpdaaGreatDoor.vars
open Go Go.Sx
instance symN (n:Nat):OfNat AV n:=⟨.sym n⟩
abbrev J (n:Int):AV:=.int .i64 n
abbrev K (o:XOp) (a:List AV) (i:Nat) (t:VT):VT:=.lt o a i none t
abbrev Q0:XOp:=.bin .eql 3 false true
abbrev Li (o:XOp) (a:List AV) (n:Nat) (t:VT):VT:=.lt o a n none t
abbrev It (o:XOp) (a:List AV) (n:Nat) (A B:VT):VT:=.lt o a n none (.ite n A B)
abbrev Iq (i:Nat) (k:Int) (n:Nat) (A B:VT):VT:=.lt Q0 [.sym i,J k] n none (.ite n A B)
abbrev Dn (l:List AV):VT:=.done (.tup (J 0::l))
abbrev Cf (f:FuncId) (t:FT) (h:List AV) (n k:Nat) (b:VT):VT:=.callF f t h n (.cons k b .nil)
abbrev Q1:XOp:=.inb
abbrev Q2:XOp:=.bin .neq 3 false false
abbrev Q3:XOp:=.bin .sub 3 false true
abbrev Q4:XOp:=.un .not
abbrev Q5:XOp:=.len 43
abbrev Q6:XOp:=.bin .neq 3 false true
abbrev Q7:XOp:=.load 3
abbrev Q8:XOp:=.ldx 3 10 1
abbrev Q9:XOp:=.bin .add 3 false true
abbrev Qa:XOp:=.bin .geq 3 false true
abbrev Qb:XOp:=.ldx 45 10 0
abbrev Qc:XOp:=.bin .eql 9 false false
abbrev Qd:XOp:=.iaddr 56
abbrev Qe:XOp:=.stx 45 10 0
abbrev Qf:XOp:=.iaddr 43
abbrev Qg:XOp:=.bin .leq 3 false true
abbrev Qh:XOp:=.bin .gtr 3 false true
abbrev Qi:XOp:=.load 45
abbrev Qj:XOp:=.bin .lss 3 false true
abbrev Qk:XOp:=.app 27 336
abbrev Ql:XOp:=.bin .add 3 true false
abbrev Qm:XOp:=.bin .lss 3 false false
abbrev Qn:XOp:=.len 25
abbrev Qo:XOp:=.iaddr 103
abbrev Qp:XOp:=.load 9
abbrev Qq:XOp:=.mget 104 [(.str [111],J 2,0),(.str [120],J 2,1),(.str [113],J 1,2),(.str [121],J 3,3),(.str [122],J 5,4),(.str [119],J 4,5)]
abbrev Qr:XOp:=.bin .neq 9 false true
abbrev Qs:XOp:=.faddr 45 1
abbrev Qt:XOp:=.bin .eql 3 false false
abbrev Qx:XOp:=.bin .neq 31 false true
end Go.Proofs.YtbjjpimpabbpdaaGreatDoor.vars
set_option linter.unusedVariables false
namespace Go.Proofs.YtbjjpimpabbpdaaGreatDoor.vars
open Go Go.Sx
def VARS:AV:=.vsl 12 10 [.str [97],.int .i64 1,.int .i64 2,.int .i64 0,.int .i64 2,.int .i64 0,.flt .f64 0,.int .i64 0,.int .i64 0,.flt .f64 0,.str [98],.int .i64 1,.int .i64 1,.int .i64 0,.int .i64 1,.int .i64 0,.flt .f64 0,.int .i64 0,.int .i64 0,.flt .f64 0,.str [111],.int .i64 2,.int .i64 2,.int .i64 0,.int .i64 2,.int .i64 0,.flt .f64 0,.int .i64 2,.int .i64 7,.flt .f64 0,.str [113],.int .i64 2,.int .i64 1,.int .i64 0,.int .i64 1,.int .i64 0,.flt .f64 0,.int .i64 1,.int .i64 1,.flt .f64 0,.str [120],.int .i64 3,.int .i64 2,.int .i64 0,.int .i64 2,.int .i64 5,.flt .f64 0,.int .i64 0,.int .i64 0,.flt .f64 0,.str [121],.int .i64 3,.int .i64 3,.int .i64 0,.int .i64 3,.int .i64 0,.flt .f64 0,.int .i64 0,.int .i64 0,.flt .f64 0,.str [122],.int .i64 3,.int .i64 5,.int .i64 0,.int .i64 5,.int .i64 0,.flt .f64 0,.int .i64 0,.int .i64 0,.flt .f64 0,.str [119],.int .i64 3,.int .i64 4,.int .i64 0,.int .i64 4,.int .i64 0,.flt .f64 0,.int .i64 0,.int .i64 0,.flt .f64 0,.str [107],.int .i64 3,.int .i64 2,.int .i64 4,.int .i64 2,.int .i64 0,.flt .f64 0,.int .i64 0,.int .i64 0,.flt .f64 0,.str [116,109],.int .i64 3,.int .i64 6,.int .i64 0,.int .i64 0,.int .i64 0,.flt .f64 0,.int .i64 0,.int .i64 0,.flt .f64 0,.str [99],.int .i64 3,.int .i64 9,.int .i64 0,.int .i64 0,.int .i64 0,.flt .f64 0,.int .i64 0,.int .i64 0,.flt .f64 0,.str [101],.int .i64 3,.int .i64 11,.int .i64 0,.int .i64 0,.int .i64 0,.flt .f64 0,.int .i64 0,.int .i64 0,.flt .f64 0]
def hs:Nat->Nat->List AV
 |_,0=>[]
 |j,n+1=>.slx j 0 0::hs (j+1) n
def pk (a b:AV):Nat×List AV:=(0,[a,b])
def ft28:FT:=⟨1,⟨[(0,.ptr 0 0),(1,.slx 2 0 0)],[pk (.slx 0 0 0) (.slx 1 0 0)],1,3,[],[],[]⟩,[(false,⟨[(0,.slx 0 0 0)],[pk (.sym 64) (.slx 1 0 0)],1,2,[],[],[]⟩)]⟩
def ftX:FT:=⟨1,⟨[(0,.ptr 0 0),(1,.slx 2 0 0),(2,.slx 3 0 0)],[pk (.slx 0 0 0) (.slx 1 0 0)],1,4,[],[],[]⟩,[(false,⟨[(0,.agg (hs 0 10))],[pk (.sym 64) (.slx 10 0 0)],1,11,[],[],[]⟩)]⟩
def g_:FT:=ftX
def R_:FT:=ftX
def ft29:FT:=⟨1,⟨[(0,.ptr 0 0),(1,.slx 2 0 0)],[pk (.slx 0 0 0) (.slx 1 0 0)],1,3,[],[],[]⟩,[(false,⟨[(0,.agg (hs 0 27))],[pk (.sym 64) (.slx 27 0 0)],1,28,[],[],[]⟩)]⟩
def ft13:FT:=⟨1,⟨[(0,.ptr 0 0),(1,.slx 2 0 0),(2,.slx 3 0 0)],[pk (.slx 0 0 0) (.slx 1 0 0)],1,4,[],[],[]⟩,[(false,⟨[(0,.slx 1 27 0)],[pk (.sym 64) (.slx 1 0 0)],2,2,[⟨1,27,0,0,none⟩],[],[]⟩)]⟩
def ft6:FT:=⟨1,⟨[(0,.ptr 0 0)],[pk (.slx 0 0 0) (.slx 1 0 0)],1,2,[],[],[]⟩,[(false,⟨[(0,.agg [VARS,.slx 0 0 0])],[pk (.sym 64) (.slx 1 0 0)],1,2,[],[],[]⟩)]⟩
def ft5:FT:=⟨0,⟨[(0,.slx 0 0 0)],[],0,1,[],[],[]⟩,[(false,⟨[(0,.ptr 0 0)],[pk (.sym 64) (.int .i64 0)],1,0,[],[],[]⟩)]⟩
def ftc (sl:List (Nat×AV)) (nv:Nat) (exs:List (Bool×Nat×AV)):FT:=⟨1,⟨(0,.ptr 0 0)::sl,[(0,[VARS,.slx 0 0 0])],1,nv+1,[],[],[]⟩,exs.map λ(b,n,a)=>(b,⟨[(0,a)],[(0,[VARS,.sym 64])],1,n,[],[],[]⟩)⟩
def pan:Bool×Nat×AV:=(true,1,.iface 82 (.agg [.slx 0 0 0]))
def S_:FT:=ftc [(1,.slx 1 0 0)] 1 [(false,11,.tup [.agg (hs 0 10),.slx 10 0 0]),pan]
def ftE:FT:=ftc [(1,.agg (hs 1 10))] 10 [(false,10,.agg (hs 0 10)),pan]
def Q_:FT:=ftE
def uE_:FT:=ftE
def uF_:FT:=ftE
def sH_:FT:=ftE
def uH_:FT:=ftE
def qG_:FT:=ftc [(1,.agg (hs 1 10)),(2,.slx 11 0 0)] 11 [(false,10,.agg (hs 0 10)),pan]
def ft62:FT:=⟨1,⟨[(0,.ptr 0 0),(1,.slx 1 0 0)],[(0,[VARS,.slx 0 0 0])],1,2,[],[],[]⟩,[(false,⟨[(0,.slx 1 10 0)],[(0,[VARS,.sym 64])],2,1,[⟨1,10,0,0,none⟩],[],[]⟩),(true,⟨[(0,.iface 82 (.agg [.slx 0 0 0]))],[(0,[VARS,.sym 64])],1,1,[],[],[]⟩)]⟩
def hc_:FT:=ftc [(1,.slx 1 0 0)] 1 [(false,1,.slx 0 0 0),pan]
def sB_:FT:=ftc [(1,.agg (hs 1 27))] 27 [(false,27,.agg (hs 0 27)),pan]
def uz_:FT:=sB_
def ft7:FT:=⟨0,⟨[(0,.agg [VARS,.slx 0 0 0])],[],0,1,[],[],[]⟩,[(false,⟨[(0,.tup [.agg (hs 0 2),.slx 2 0 0])],[],0,3,[],[],[]⟩)]⟩
end Go.Proofs.YtbjjpimpabbpdaaGreatDoor.vars
set_option maxRecDepth 100000
set_option linter.unusedVariables false
set_option linter.unusedSimpArgs false
namespace Go.Proofs.YtbjjpimpabbpdaaGreatDoor.vars
open Go Go.Sx
instance gI:Gl:=glT gl0 nr0 []
theorem mo:Tryz.prog.follows .mixedOrders=true:=by kernel_rfl
theorem ov:pm_ Tryz.prog:=u3_ gl0 nr0 _
inductive GX where
 |mk (op kd:Int) (nm fd:List UInt8) (ad n vk vi:Int) (vf:Nat) (args:List GX)
mutual
def d_:GX->List AV
 | .mk op kd nm fd ad n vk vi vf args=>[.int .i64 op,.int .i64 kd,.str nm,.str fd,.int .i64 ad,.int .i64 n,.int .i64 vk,.int .i64 vi,.flt .f64 vf,l_ args]
def l_:List GX->AV
 |[]=>.nsl
 |a::r=>.vsl (r.length+1) 10 (d_ a++W_ r)
def W_:List GX->List AV
 |[]=>[]
 |a::r=>d_ a++W_ r
end
theorem em_:∀l:List GX,W_ l=cd_ d_ l
 |[]=>rfl
 |a::r=>by simp only [W_,cd_,em_ r]
theorem D_ (l:List GX):l_ l=dp_ d_ 10 l:=by
 cases l with
 |nil=>rfl
 |cons a r=>simp only [l_,dp_,cd_,em_]
theorem nJ_ (x:GX):(d_ x).length=10:=by cases x;simp [d_]
mutual
theorem G_:∀x:GX,okL (d_ x)=true
 | .mk op kd nm fd ad n vk vi vf args=>by simp only [d_,okL,okC,okA args]
theorem okA:∀l:List GX,okC (l_ l)=true
 |[]=>rfl
 |a::r=>by simp only [l_,okC];exact ot_.okL_join (G_ a) (vb_ r)
theorem vb_:∀l:List GX,okL (W_ l)=true
 |[]=>rfl
 |a::r=>by simp only [W_];exact ot_.okL_join (G_ a) (vb_ r)
end
inductive GS where
 |mk (op:Int) (to e:GX) (thn els:List GS) (nm:List UInt8) (kd ad:Int) (args:List GX)
mutual
def z_:GS->List AV
 | .mk op to e thn els nm kd ad args=>.int .i64 op::(d_ to++(d_ e++[r_ thn,r_ els,.str nm,.int .i64 kd,.int .i64 ad,l_ args]))
def r_:List GS->AV
 |[]=>.nsl
 |a::r=>.vsl (r.length+1) 27 (z_ a++V_ r)
def V_:List GS->List AV
 |[]=>[]
 |a::r=>z_ a++V_ r
end
theorem b7_:∀l:List GS,V_ l=cd_ z_ l
 |[]=>rfl
 |a::r=>by simp only [V_,cd_,b7_ r]
theorem L_ (l:List GS):r_ l=dp_ z_ 27 l:=by
 cases l with
 |nil=>rfl
 |cons a r=>simp only [r_,dp_,cd_,b7_]
theorem uJ_ (x:GS):(z_ x).length=27:=by cases x;simp [z_,nJ_]
mutual
theorem okS:∀x:GS,okL (z_ x)=true
 | .mk op to e thn els nm kd ad args=>by simp only [z_];refine ot_.okL_join (a:=[_]) rfl (ot_.okL_join (G_ to) (ot_.okL_join (G_ e) ?_));simp only [okL,okC,okA args,okB thn,okB els]
theorem okB:∀l:List GS,okC (r_ l)=true
 |[]=>rfl
 |a::r=>by simp only [r_,okC];exact ot_.okL_join (okS a) (va_ r)
theorem va_:∀l:List GS,okL (V_ l)=true
 |[]=>rfl
 |a::r=>by simp only [V_];exact ot_.okL_join (okS a) (va_ r)
end
def Ari (op:Int) (n:Nat):Prop:=(op=1\/op=2)/\n=0\/(op=3\/op=15\/op=16\/op=17)/\n=1\/(4<=op/\op<=14)/\n=2
def uQ_ (f:Nat):Prop:=f=0\/f=4609434218613702656\/f=4611686018427387904\/f=4598175219545276416
def GX.op:GX->Int| .mk op .. =>op
def GX.kd:GX->Int| .mk _ kd .. =>kd
def N_:List (List UInt8×List UInt8):=[([98],[]),([113],[]),([116,109],[113]),([97],[]),([120],[]),([111],[]),([99],[99,118]),([121],[]),([116,109],[101,116]),([119],[]),([122],[])]
def w_ (vk vi:Int) (vf:Nat):Prop:=(vk=1\/vk=3\/vk=4\/vk=5)/\0<=vi/\vi<50/\(vk=1->vi<=1)/\(vk=5->vi=0)/\(vk≠5->vf=0)
def Nod (op kd:Int) (nm fd:List UInt8) (vk vi:Int) (vf:Nat):Prop:=(op=1->w_ vk vi vf)/\(op=2->(nm,fd)∈N_)/\(op=3->nm=[107])/\(op=17->2<=kd/\kd<=5)
def WX:Nat->GX->Prop
 |0,_=>False
 |d+1,.mk op kd nm fd _ _ vk vi vf args=>Ari op args.length/\uQ_ vf/\Nod op kd nm fd vk vi vf/\∀a∈args,WX d a
theorem b_:∀{d e:Nat} {x:GX},d<=e->WX d x->WX e x
 |0,_,_,_,h=>h.elim
 |d+1,0,_,h,_=>by omega
 |d+1,e+1,.mk ..,h,⟨h1,h2,h3,h4⟩=>⟨h1,h2,h3,λa ha=>b_ (by omega) (h4 a ha)⟩
def WS:Nat->GS->Prop
 |0,_=>False
 |d+1,.mk op to e thn els nm kd ad args=>
  (op=1/\WX 5 to/\(to.op=2\/to.op=3)/\WX 6 e/\thn=[]/\els=[])\/
  ((op=2\/op=3)/\WX 5 e/\thn.length<=5/\els.length<=5/\(∀s∈thn,WS d s)/\∀s∈els,WS d s)\/
  (op=4/\(nm=[116,109]\/nm=[99]\/nm=[101])/\args.length<=2/\(∀a∈args,WX 5 a)/\thn=[]/\els=[])
def K_ (c:UInt8):List AV:=[.int .u8 (c.toNat:Int)]
theorem vm_ (c:UInt8):(K_ c).length=1:=rfl
theorem n5_ (c:UInt8):okL (K_ c)=true:=rfl
def Pk (l:List UInt8) (a:AV):Prop:=SlV K_ 1 l a/\l.length<=9223372036854775807
section
variable {l:List UInt8} {a:AV}
theorem uf_ (h:Pk l a):(XOp.len 22).run Tryz.prog [a]=some (.int .i64 (l.length:Int)):=h.1.len Tryz.underlying22
theorem vl_ (h:Pk l a) {i:Nat} (hi:i<l.length) {k:IntKind}:(XOp.iaddr 22).run Tryz.prog [a,.int k (i:Int)]=some (.vptr (cd_ K_ (l.drop i))):=h.1.ia (e:=5) Tryz.underlying22 (ti:=(Tryz.prog.info? 5).get!) (by kernel_rfl) (by kernel_rfl) vm_ hi k
theorem ld5 {i:Nat} (hi:i<l.length):(XOp.load 5).run Tryz.prog [.vptr (cd_ K_ (l.drop i))]=some (.int .u8 (l[i].toNat:Int)):=by rw [List.drop_eq_getElem_cons hi];exact sC_ Tryz.underlying5 rfl _ _
end
theorem uX_ (n:Nat) (h:n<256):(XOp.conv 5 3).run Tryz.prog [.int .u8 (n:Int)]=some (.int .i64 (n:Int)):=by rw [tf_ Tryz.underlying5 Tryz.underlying3,u7_ (by omega) (by omega)]
theorem t2_ (x m:Nat) (h:0<m) (h2:m<9223372036854775808) (t:TypeId) (cx cy:Bool):(XOp.bin .rem t cx cy).run Tryz.prog [.int .i64 (x:Int),.int .i64 (m:Int)]=some (.int .i64 ((x%m:Nat):Int)):=by
 have:(x:Int).tmod (m:Int)=((x%m:Nat):Int):=by rw [Int.tmod_eq_emod_of_nonneg (by omega)];rfl
 show bU_ Tryz.prog .rem t cx cy (.int .i64 (x:Int)) (.int .i64 (m:Int))=_;exact uL_ (by omega) this t cx cy
theorem o_ {x y:Int} {t:TypeId} {cx cy:Bool} (h1: -9223372036854775807<=x+y) (h2:x+y<=9223372036854775807):(XOp.bin .add t cx cy).run Tryz.prog [.int .i64 x,.int .i64 y]=some (.int .i64 (x+y)):=by rw [run_add,u7_ (by omega) (by omega)]
theorem n_ {x y z:Int} {t:TypeId} {cx cy:Bool} (h:x-y=z) (h1: -9223372036854775807<=z) (h2:z<=9223372036854775807):(XOp.bin .sub t cx cy).run Tryz.prog [.int .i64 x,.int .i64 y]=some (.int .i64 z):=by rw [run_sub,h,u7_ (by omega) (by omega)]
def RN (l:List UInt8) (m:Nat):Nat->List AV->Prop:=λ_ ws=>∃v n:Nat,ws=[.int .i64 (v:Int),.int .i64 (n:Int)]/\v<m/\n<=l.length
def c28:VC:=⟨⟨[],[]⟩,[],[],1,true,[]⟩
def t28:VT:=
 (K (.len 22) [64] 67
 (K (.bin .geq 3 false false) [65,67] 68
 (.ite 68
 (.done (.tup [J 0,J 0,65]))
 (K Q9 [65,J 1] 69
 (K Q3 [69,J 1] 70
 (K (.iaddr 22) [64,70] 71
 (K (.load 5) [71] 72
 (K (.conv 5 3) [72] 73
 (K (.bin .rem 3 false false) [73,66] 74
 (.done (.tup [J 0,74,69])))))))))))
theorem p28 {l:List UInt8} {a:AV} {n m:Nat} (h:Pk l a) (hn:n<=l.length) (hm:0<m) (hm2:m<=1000):CF Tryz.prog 28 ft28 [a,.int .i64 (n:Int),.int .i64 (m:Int)] (RN l m):=by
 have hb:=h.2;refine uD_ (c:=c28) (n:=300) (t:=t28) mo ov rfl (λY _=>uZ_ _) (by kernel_rfl) λY hf hg=>?_;unfold t28;refine uR_ (uf_ h) rfl (uR_ (run_geq ..) rfl (uB_ rfl (λh1=>VOK_fin rfl ⟨0,n,rfl,hm,hn⟩) (λh1=>?_)));have h1:n<l.length:=by simpa using h1
 refine uR_ (o_ (by omega) (by omega)) rfl (uR_ (n_ (z:=n) (by omega) (by omega) (by omega)) rfl (uR_ (vl_ h h1) (ot_ n5_ _) (uR_ (ld5 h1) rfl (uR_ (uX_ _ (UInt8.toNat_lt _)) rfl (uR_ (t2_ _ _ hm (by omega) ..) rfl (VOK_fin rfl ⟨l[n].toNat%m,n+1,rfl,Nat.mod_lt _ hm,h1⟩))))))
end Go.Proofs.YtbjjpimpabbpdaaGreatDoor.vars
set_option maxRecDepth 100000
set_option linter.unusedVariables false
set_option linter.unusedSimpArgs false
namespace Go.Proofs.YtbjjpimpabbpdaaGreatDoor.vars
open Go Go.Sx
def RI (l:List UInt8) (m:Int):Nat->List AV->Prop:=λ_ ws=>∃v n:Nat,ws=[.int .i64 (v:Int),.int .i64 (n:Int)]/\(v:Int)<m/\n<=l.length
theorem rZ_ {f:FuncId} {ft:FT} {vs:List AV} {R R':Nat->List AV->Prop} (h:CF Tryz.prog f ft vs R) (hr:∀j ws,R j ws->R' j ws):CF Tryz.prog f ft vs R':=
 ⟨h.1,λY hf B pr E w us h1 h2 h3 h4=>(h.2 Y hf B pr E w us h1 h2 h3 h4).mono λe w' ⟨Y',r,⟨j,ws,b,tp,q1,q2,q3⟩,hp⟩=>⟨Y',r,⟨j,ws,b,tp,q1,hr _ _ q2,q3⟩,hp⟩⟩
theorem u_ {l:List UInt8} {a:AV} {n:Nat} {m:Int} (h:Pk l a) (hn:n<=l.length) (hm:0<m) (hm2:m<=1000):CF Tryz.prog 28 ft28 [a,.int .i64 (n:Int),.int .i64 m] (RI l m):=by
 have e:m=((m.toNat:Nat):Int):=by omega
 have:=p28 h hn (m:=m.toNat) (by omega) (by omega);rw [←e]at this;exact rZ_ this λj ws ⟨v,n,h1,h2,h3⟩=>⟨v,n,h1,by omega,h3⟩
def RX (l:List UInt8) (d:Nat):Nat->List AV->Prop:=λ_ ws=>∃(x:GX) (n:Nat),ws=d_ x++[.int .i64 (n:Int)]/\WX (d+1) x/\n<=l.length
def PX (l:List UInt8) (a:AV) (f:FuncId) (d:Nat):Prop:=∀(n:Nat) (k:Int),n<=l.length->1<=k/\k<=5->CF Tryz.prog f ftX [a,.int .i64 (n:Int),.int .i64 k,.int .i64 (d:Int)] (RX l d)
theorem p_ {d:Nat} {kd ad n vk vi:Int} {nm fd:List UInt8} {vf:Nat} (ho:w_ vk vi vf) (hf:uQ_ vf):WX (d+1) (.mk 1 kd nm fd ad n vk vi vf []):=⟨.inl ⟨.inl rfl,rfl⟩,hf,⟨λ_=>ho,λh=>by omega,λh=>by omega,λh=>by omega⟩,λa ha=>(List.not_mem_nil ha).elim⟩
theorem i_ {d:Nat} {kd ad n vk vi:Int} {nm fd:List UInt8} (ho:(nm,fd)∈N_):WX (d+1) (.mk 2 kd nm fd ad n vk vi 0 []):=⟨.inl ⟨.inr rfl,rfl⟩,.inl rfl,⟨λh=>by omega,λ_=>ho,λh=>by omega,λh=>by omega⟩,λa ha=>(List.not_mem_nil ha).elim⟩
theorem Y_ {d:Nat} {op kd ad n vk vi:Int} {nm fd:List UInt8} {x:GX} (ho:op=3/\nm=[107]\/op=15\/op=16\/op=17/\2<=kd/\kd<=5) (h:WX d x):WX (d+1) (.mk op kd nm fd ad n vk vi 0 [x]):=by refine ⟨.inr (.inl ⟨by omega,rfl⟩),.inl rfl,⟨λh=>by omega,λh=>by omega,λh=>?_,λh=>by omega⟩,λa ha=>by cases List.mem_singleton.1 ha;exact h⟩;rcases ho with ho|ho|ho|ho;exact ho.2;all_goals omega
theorem Z_ {d:Nat} {op kd ad n vk vi:Int} {nm fd:List UInt8} {x y:GX} (ho:4<=op/\op<=14) (h:WX d x) (h2:WX d y):WX (d+1) (.mk op kd nm fd ad n vk vi 0 [x,y]):=
 ⟨.inr (.inr ⟨ho,rfl⟩),.inl rfl,⟨λh=>by omega,λh=>by omega,λh=>by omega,λh=>by omega⟩,λa ha=>by rcases List.mem_cons.1 ha with rfl|ha;exact h;cases List.mem_singleton.1 ha;exact h2⟩
theorem a_ {P:Program} {Q:AV->Prop} {L:List (Nat->List AV->Prop)} {Y:Sy} {f:FuncId} {ft:FT} {hv vs:List AV} {n:Nat} {bs:VTs} {R:Nat->List AV->Prop} (h1:CF P f ft vs R) (h0:ab_ Y.v hv=vs) (h2:okL vs=true) (h3:r1_ P Q R L (Y.puts n vs) (Nat.add n ft.ent.nv) 0 bs):VOK P Q L Y (.callF f ft hv n bs):=by subst h0;exact t0_ h1 h2 h3
theorem J_ {a:AV} (h:okC a=true) {n m:Int}:okL [a,.int .i64 n,.int .i64 m]=true:=by simp only [okL,okC,h]
theorem t_ {a:AV} (h:okC a=true) {n m k:Int}:okL [a,.int .i64 n,.int .i64 m,.int .i64 k]=true:=by simp only [okL,okC,h]
theorem tX_ (x:GX) (n:Int):okL (d_ x++[.int .i64 n])=true:=ot_.okL_join (G_ x) rfl
theorem j_ {l:List UInt8} {d n j:Nat} {x:GX} {hv:List AV} {Y:Sy} {L:List (Nat->List AV->Prop)} (h:ab_ Y.v hv=d_ x++[.int .i64 (n:Int)]) (hw:WX (d+1) x) (hn:n<=l.length):VOK Tryz.prog (QF (RX l d)) L Y (.done (.tup (.int .i64 (.ofNat j)::hv))):=
 VOK_fin (by rw [h];exact tX_ x n) ⟨x,n,h,hw,hn⟩
section
variable {P:Program} {Q:AV->Prop} {L:List (Nat->List AV->Prop)} {Y:Sy} {t:TypeId} {cx cy:Bool} {args:List AV} {n:Nat} {A B:VT} {k:IntKind} {a b:Int}
def e_:BinOp->Int->Int->Bool
 | .eql,a,b=>decide (a=b)
 | .neq,a,b=> !decide (a=b)
 | .lss,a,b=>decide (a<b)
 | .gtr,a,b=>decide (b<a)
 | .leq,a,b=>decide (a<=b)
 |_,_,_=>false
theorem h_ {op:BinOp} (h0:ab_ Y.v args=[.int k a,.int k b]) (ho:(match op with| .eql=>true| .neq=>true| .lss=>true| .gtr=>true| .leq=>true|_=>false)=true)
  (h1:e_ op a b=true->VOK P Q L (Y.put n (.bool (e_ op a b))) A) (h2:e_ op a b=false->VOK P Q L (Y.put n (.bool (e_ op a b))) B):VOK P Q L Y (.lt (.bin op t cx cy) args n none (.ite n A B)):=by
 have hr:(XOp.bin op t cx cy).run P [.int k a,.int k b]=some (.bool (e_ op a b)):=by
  cases op<;>simp only at ho<;>first|(cases ho;done)|skip
  exact run_eql ..;exact run_neq ..;exact run_lss ..;exact run_leq ..;exact run_gtr ..
 exact uR_ (by rw [h0];exact hr) rfl (uB_ (t:=e_ op a b) (by rw [vc_,if_pos rfl]) h1 h2)
end
def c52:VC:=⟨⟨[],[]⟩,[],[],1,true,[(28,ft28),(50,g_)]⟩
def t52:VT:=
 (.callF 28 ft28 [64,65,J 4] 68
 (.cons 2
 (K Q0 [66,J 1] 73
 (.ite 73
 (.callF 28 ft28 [64,72,J 2] 74
 (.cons 2
 (K Qf [.vsl 4 10 [J 2,J 0,.str [98],.str [],J 0,J 0,J 0,J 0,.flt .f64 0,.nsl,J 2,J 0,.str [113],.str [],J 0,J 0,J 0,J 0,.flt .f64 0,.nsl,J 2,J 0,.str [116,109],.str [113],J 0,J 0,J 0,J 0,.flt .f64 0,.nsl,J 1,J 0,.str [],.str [],J 0,J 0,J 1,77,.flt .f64 0,.nsl],71] 79
 (.lt Qi [79] 80 (some 10)
 (.done (.tup [J 0,80,81,82,83,84,85,86,87,88,89,78]))))
 .nil))
 (K Q0 [66,J 2] 74
 (.ite 74
 (K Q0 [71,J 0] 75
 (.ite 75
 (K Qh [67,J 1] 76
 (.ite 76
 (K Q3 [67,J 1] 77
 (.callF 50 g_ [64,72,J 2,77] 78
 (.cons 11
 (.done (.tup [J 0,J 3,J 0,.str [107],.str [],J 0,J 0,J 0,J 0,.flt .f64 0,.vsl 1 10 [82,83,84,85,86,87,88,89,90,91],92]))
 .nil)))
 (K Qj [71,J 2] 77
 (.ite 77
 (.callF 28 ft28 [64,72,J 7] 78
 (.cons 2
 (.done (.tup [J 0,J 17,J 2,.str [],.str [],J 0,J 0,J 0,J 0,.flt .f64 0,.vsl 1 10 [J 1,J 0,.str [],.str [],J 0,J 0,J 3,81,.flt .f64 0,.nsl],82]))
 .nil))
 (.callF 28 ft28 [64,72,J 4] 78
 (.cons 2
 (K Qf [.vsl 4 10 [J 2,J 0,.str [97],.str [],J 0,J 0,J 0,J 0,.flt .f64 0,.nsl,J 2,J 0,.str [120],.str [],J 0,J 0,J 0,J 0,.flt .f64 0,.nsl,J 2,J 0,.str [111],.str [],J 0,J 0,J 0,J 0,.flt .f64 0,.nsl,J 2,J 0,.str [99],.str [99,118],J 0,J 0,J 0,J 0,.flt .f64 0,.nsl],81] 83
 (.lt Qi [83] 84 (some 10)
 (.done (.tup [J 0,84,85,86,87,88,89,90,91,92,93,82]))))
 .nil))))))
 (K Qj [71,J 2] 76
 (.ite 76
 (.callF 28 ft28 [64,72,J 7] 77
 (.cons 2
 (.done (.tup [J 0,J 17,J 2,.str [],.str [],J 0,J 0,J 0,J 0,.flt .f64 0,.vsl 1 10 [J 1,J 0,.str [],.str [],J 0,J 0,J 3,80,.flt .f64 0,.nsl],81]))
 .nil))
 (.callF 28 ft28 [64,72,J 4] 77
 (.cons 2
 (K Qf [.vsl 4 10 [J 2,J 0,.str [97],.str [],J 0,J 0,J 0,J 0,.flt .f64 0,.nsl,J 2,J 0,.str [120],.str [],J 0,J 0,J 0,J 0,.flt .f64 0,.nsl,J 2,J 0,.str [111],.str [],J 0,J 0,J 0,J 0,.flt .f64 0,.nsl,J 2,J 0,.str [99],.str [99,118],J 0,J 0,J 0,J 0,.flt .f64 0,.nsl],80] 82
 (.lt Qi [82] 83 (some 10)
 (.done (.tup [J 0,83,84,85,86,87,88,89,90,91,92,81]))))
 .nil))))))
 (K Q0 [66,J 3] 75
 (.ite 75
 (K Qj [71,J 2] 76
 (.ite 76
 (.callF 28 ft28 [64,72,J 9] 77
 (.cons 2
 (.done (.tup [J 0,J 1,J 0,.str [],.str [],J 0,J 0,J 3,80,.flt .f64 0,.nsl,81]))
 .nil))
 (.done (.tup [J 0,J 2,J 0,.str [121],.str [],J 0,J 0,J 0,J 0,.flt .f64 0,.nsl,72]))))
 (K Q0 [66,J 4] 76
 (.ite 76
 (K Q0 [71,J 0] 77
 (.ite 77
 (.done (.tup [J 0,J 2,J 0,.str [116,109],.str [101,116],J 0,J 0,J 0,J 0,.flt .f64 0,.nsl,72]))
 (K Q0 [71,J 1] 78
 (.ite 78
 (.callF 28 ft28 [64,72,J 50] 79
 (.cons 2
 (.done (.tup [J 0,J 1,J 0,.str [],.str [],J 0,J 0,J 4,82,.flt .f64 0,.nsl,83]))
 .nil))
 (.done (.tup [J 0,J 2,J 0,.str [119],.str [],J 0,J 0,J 0,J 0,.flt .f64 0,.nsl,72]))))))
 (K Qj [71,J 2] 77
 (.ite 77
 (.callF 28 ft28 [64,72,J 4] 78
 (.cons 2
 (K (.iaddr 121) [.vsl 4 1 [.flt .f64 0,.flt .f64 4609434218613702656,.flt .f64 4611686018427387904,.flt .f64 4598175219545276416],81] 83
 (K (.load 40) [83] 84
 (.done (.tup [J 0,J 1,J 0,.str [],.str [],J 0,J 0,J 5,J 0,84,.nsl,82]))))
 .nil))
 (.done (.tup [J 0,J 2,J 0,.str [122],.str [],J 0,J 0,J 0,J 0,.flt .f64 0,.nsl,72]))))))))))))
 .nil))
def c50:VC:=⟨⟨[],[]⟩,[],[],1,true,[(28,ft28),(50,g_),(52,R_)]⟩
def t50:VT:=
 (K Qg [67,J 1] 68
 (.ite 68
 (.callF 52 R_ [64,65,66,67] 69
 (.cons 11
 (.done (.tup [J 0,73,74,75,76,77,78,79,80,81,82,83]))
 .nil))
 (.callF 28 ft28 [64,65,J 4] 69
 (.cons 2
 (K Q0 [72,J 0] 74
 (.ite 74
 (.callF 52 R_ [64,73,66,67] 75
 (.cons 11
 (.done (.tup [J 0,79,80,81,82,83,84,85,86,87,88,89]))
 .nil))
 (K Q0 [66,J 1] 75
 (.ite 75
 (.callF 28 ft28 [64,73,J 5] 76
 (.cons 2
 (K Q0 [79,J 0] 81
 (.ite 81
 (K Q3 [67,J 1] 82
 (.callF 50 g_ [64,80,J 1,82] 83
 (.cons 11
 (.done (.tup [J 0,J 15,J 0,.str [],.str [],J 0,J 0,J 0,J 0,.flt .f64 0,.vsl 1 10 [87,88,89,90,91,92,93,94,95,96],97]))
 .nil)))
 (K Q0 [79,J 1] 82
 (.ite 82
 (.callF 28 ft28 [64,80,J 2] 83
 (.cons 2
 (K Ql [J 13,86] 88
 (K Q3 [67,J 1] 89
 (.callF 50 g_ [64,87,J 1,89] 90
 (.cons 11
 (K Q3 [67,J 1] 105
 (.callF 50 g_ [64,104,J 1,105] 106
 (.cons 11
 (.done (.tup [J 0,88,J 0,.str [],.str [],J 0,J 0,J 0,J 0,.flt .f64 0,.vsl 2 10 [94,95,96,97,98,99,100,101,102,103,110,111,112,113,114,115,116,117,118,119],120]))
 .nil)))
 .nil))))
 .nil))
 (.callF 28 ft28 [64,80,J 4] 83
 (.cons 2
 (K Ql [J 2,86] 88
 (.callF 28 ft28 [64,87,J 4] 89
 (.cons 2
 (K Ql [J 9,92] 94
 (K Q3 [67,J 1] 95
 (.callF 50 g_ [64,93,88,95] 96
 (.cons 11
 (K Q3 [67,J 1] 111
 (.callF 50 g_ [64,110,88,111] 112
 (.cons 11
 (.done (.tup [J 0,94,J 0,.str [],.str [],J 0,J 0,J 0,J 0,.flt .f64 0,.vsl 2 10 [100,101,102,103,104,105,106,107,108,109,116,117,118,119,120,121,122,123,124,125],126]))
 .nil)))
 .nil))))
 .nil)))
 .nil))))))
 .nil))
 (.callF 28 ft28 [64,73,J 9] 76
 (.cons 2
 (K Q0 [79,J 0] 81
 (.ite 81
 (K Q3 [67,J 1] 82
 (.callF 50 g_ [64,80,66,82] 83
 (.cons 11
 (.done (.tup [J 0,J 16,J 0,.str [],.str [],J 0,J 0,J 0,J 0,.flt .f64 0,.vsl 1 10 [87,88,89,90,91,92,93,94,95,96],97]))
 .nil)))
 (K Q0 [79,J 1] 82
 (.ite 82
 (.callF 28 ft28 [64,80,J 4] 83
 (.cons 2
 (K Ql [J 2,86] 88
 (K Q3 [67,J 1] 89
 (.callF 50 g_ [64,87,88,89] 90
 (.cons 11
 (.done (.tup [J 0,J 17,66,.str [],.str [],J 0,J 0,J 0,J 0,.flt .f64 0,.vsl 1 10 [94,95,96,97,98,99,100,101,102,103],104]))
 .nil))))
 .nil))
 (K Q0 [79,J 2] 83
 (.ite 83
 (K Q6 [66,J 5] 84
 (.ite 84
 (K Q3 [67,J 1] 85
 (.callF 50 g_ [64,80,66,85] 86
 (.cons 11
 (K Q3 [67,J 1] 101
 (.callF 50 g_ [64,100,66,101] 102
 (.cons 11
 (.done (.tup [J 0,J 8,J 0,.str [],.str [],J 0,J 0,J 0,J 0,.flt .f64 0,.vsl 2 10 [90,91,92,93,94,95,96,97,98,99,106,107,108,109,110,111,112,113,114,115],116]))
 .nil)))
 .nil)))
 (.callF 28 ft28 [64,80,J 4] 85
 (.cons 2
 (K Ql [J 4,88] 90
 (K Q3 [67,J 1] 91
 (.callF 50 g_ [64,89,66,91] 92
 (.cons 11
 (K Q3 [67,J 1] 107
 (.callF 50 g_ [64,106,66,107] 108
 (.cons 11
 (.done (.tup [J 0,90,J 0,.str [],.str [],J 0,J 0,J 0,J 0,.flt .f64 0,.vsl 2 10 [96,97,98,99,100,101,102,103,104,105,112,113,114,115,116,117,118,119,120,121],122]))
 .nil)))
 .nil))))
 .nil))))
 (.callF 28 ft28 [64,80,J 4] 84
 (.cons 2
 (K Ql [J 4,87] 89
 (K Q3 [67,J 1] 90
 (.callF 50 g_ [64,88,66,90] 91
 (.cons 11
 (K Q3 [67,J 1] 106
 (.callF 50 g_ [64,105,66,106] 107
 (.cons 11
 (.done (.tup [J 0,89,J 0,.str [],.str [],J 0,J 0,J 0,J 0,.flt .f64 0,.vsl 2 10 [95,96,97,98,99,100,101,102,103,104,111,112,113,114,115,116,117,118,119,120],121]))
 .nil)))
 .nil))))
 .nil))))))))
 .nil))))))
 .nil))))
theorem p52 {l:List UInt8} {a:AV} (hp:Pk l a) (d:Nat) (hd2:d<=100) (hX:1<=d->PX l a 50 d):PX l a 52 (d+1):=by
 intro n k hn hk;have hA:=hp.1.ok n5_;refine uD_ (c:=c52) (n:=300) (t:=t52) mo ov rfl (λY _=>uZ_ _) (by kernel_rfl) λY hf hg=>?_;unfold t52;have f7:∀v:Nat,(v:Int)<7->WX (d+1+1) (.mk 17 2 [] [] 0 0 0 0 0 [.mk 1 0 [] [] 0 0 3 (v:Int) 0 []]):=λv hv=>Y_ (by decide) (p_ (by unfold w_;omega) (.inl rfl))
 (refine a_ (u_ hp hn (by first|decide|omega) (by first|decide|omega)) rfl (J_ hA) ⟨?_,trivial⟩;intro ws hw;rcases hw with ⟨v,n,rfl,hv,hn⟩)
 (refine h_ rfl rfl (λh=>?_) (λh=>?_)<;>rw [e_]at h)
 ·((have e4:v=0\/v=1\/v=2\/v=3:=by omega);rcases e4 with rfl|rfl|rfl|rfl)
  all_goals (refine a_ (u_ hp hn (by first|decide|omega) (by first|decide|omega)) rfl (J_ hA) ⟨?_,trivial⟩;intro ws hw;rcases hw with ⟨v,n,rfl,hv,hn⟩);refine uR_ rfl rfl (uC_ rfl rfl rfl ?_);(first
                                                                                                                                                                                                               |exact j_ (x:=.mk 2 _ _ _ _ _ _ _ _ []) rfl (i_ (by decide)) hn
                                                                                                                                                                                                               |exact j_ (x:=.mk 1 _ _ _ _ _ _ _ _ []) rfl (p_ (by unfold w_;omega) (by first|exact .inl rfl|exact .inr (.inl rfl)|exact .inr (.inr (.inl rfl))|exact .inr (.inr (.inr rfl)))) hn)
 (refine h_ rfl rfl (λh=>?_) (λh=>?_)<;>rw [e_]at h)
 ·(refine h_ rfl rfl (λh=>?_) (λh=>?_)<;>rw [e_]at h)
  ·(refine h_ rfl rfl (λh=>?_) (λh=>?_)<;>rw [e_]at h)
   .have hd1:1<=d:=(by simp at h;omega);refine uR_ (n_ (z:=(d:Int)) (by omega) (by omega) (by omega)) rfl ?_
    (refine a_ ((hX hd1) _ _ hn (by first|decide|(simp only [decide_eq_true_eq,decide_eq_false_iff_not]at *; omega))) rfl (t_ hA) ⟨?_,trivial⟩;intro ws hw;obtain ⟨⟨op,kd,nm,fd,ad,nn,vk,vi,vf,args⟩,n,rfl,hx,hn⟩:=hw)
    (exact j_ (x:=.mk _ _ _ _ _ _ _ _ _ [.mk ..]) rfl (Y_ (by first|decide|(refine .inr (.inr (.inr ⟨rfl,?_,?_⟩))<;>(simp only [decide_eq_true_eq,decide_eq_false_iff_not]at *; omega))) (by assumption)) hn)
   ·(refine h_ rfl rfl (λh=>?_) (λh=>?_)<;>rw [e_]at h)
    ·(refine a_ (u_ hp hn (by first|decide|omega) (by first|decide|omega)) rfl (J_ hA) ⟨?_,trivial⟩;intro ws hw;rcases hw with ⟨v,n,rfl,hv,hn⟩)
     exact j_ (x:=.mk _ _ _ _ _ _ _ _ _ [.mk _ _ _ _ _ _ _ _ _ []]) rfl (f7 _ hv) hn
    ·(refine a_ (u_ hp hn (by first|decide|omega) (by first|decide|omega)) rfl (J_ hA) ⟨?_,trivial⟩;intro ws hw;rcases hw with ⟨v,n,rfl,hv,hn⟩);((have e4:v=0\/v=1\/v=2\/v=3:=by omega);rcases e4 with rfl|rfl|rfl|rfl)
     all_goals refine uR_ rfl rfl (uC_ rfl rfl rfl ?_);(first
                                                                |exact j_ (x:=.mk 2 _ _ _ _ _ _ _ _ []) rfl (i_ (by decide)) hn
                                                                |exact j_ (x:=.mk 1 _ _ _ _ _ _ _ _ []) rfl (p_ (by unfold w_;omega) (by first|exact .inl rfl|exact .inr (.inl rfl)|exact .inr (.inr (.inl rfl))|exact .inr (.inr (.inr rfl)))) hn)
  ·(refine h_ rfl rfl (λh=>?_) (λh=>?_)<;>rw [e_]at h)
   ·(refine a_ (u_ hp hn (by first|decide|omega) (by first|decide|omega)) rfl (J_ hA) ⟨?_,trivial⟩;intro ws hw;rcases hw with ⟨v,n,rfl,hv,hn⟩)
    exact j_ (x:=.mk _ _ _ _ _ _ _ _ _ [.mk _ _ _ _ _ _ _ _ _ []]) rfl (f7 _ hv) hn
   ·(refine a_ (u_ hp hn (by first|decide|omega) (by first|decide|omega)) rfl (J_ hA) ⟨?_,trivial⟩;intro ws hw;rcases hw with ⟨v,n,rfl,hv,hn⟩);((have e4:v=0\/v=1\/v=2\/v=3:=by omega);rcases e4 with rfl|rfl|rfl|rfl)
    all_goals refine uR_ rfl rfl (uC_ rfl rfl rfl ?_);(first
                                                               |exact j_ (x:=.mk 2 _ _ _ _ _ _ _ _ []) rfl (i_ (by decide)) hn
                                                               |exact j_ (x:=.mk 1 _ _ _ _ _ _ _ _ []) rfl (p_ (by unfold w_;omega) (by first|exact .inl rfl|exact .inr (.inl rfl)|exact .inr (.inr (.inl rfl))|exact .inr (.inr (.inr rfl)))) hn)
 (refine h_ rfl rfl (λh=>?_) (λh=>?_)<;>rw [e_]at h)
 ·(refine h_ rfl rfl (λh=>?_) (λh=>?_)<;>rw [e_]at h)
  ·(refine a_ (u_ hp hn (by first|decide|omega) (by first|decide|omega)) rfl (J_ hA) ⟨?_,trivial⟩;intro ws hw;rcases hw with ⟨v,n,rfl,hv,hn⟩);(first
                                                                                                                                                       |exact j_ (x:=.mk 2 _ _ _ _ _ _ _ _ []) rfl (i_ (by decide)) hn
                                                                                                                                                       |exact j_ (x:=.mk 1 _ _ _ _ _ _ _ _ []) rfl (p_ (by unfold w_;omega) (by first|exact .inl rfl|exact .inr (.inl rfl)|exact .inr (.inr (.inl rfl))|exact .inr (.inr (.inr rfl)))) hn)
  ·(first
     |exact j_ (x:=.mk 2 _ _ _ _ _ _ _ _ []) rfl (i_ (by decide)) hn
     |exact j_ (x:=.mk 1 _ _ _ _ _ _ _ _ []) rfl (p_ (by unfold w_;omega) (by first|exact .inl rfl|exact .inr (.inl rfl)|exact .inr (.inr (.inl rfl))|exact .inr (.inr (.inr rfl)))) hn)
 (refine h_ rfl rfl (λh=>?_) (λh=>?_)<;>rw [e_]at h)
 ·(refine h_ rfl rfl (λh=>?_) (λh=>?_)<;>rw [e_]at h)
  ·(first
     |exact j_ (x:=.mk 2 _ _ _ _ _ _ _ _ []) rfl (i_ (by decide)) hn
     |exact j_ (x:=.mk 1 _ _ _ _ _ _ _ _ []) rfl (p_ (by unfold w_;omega) (by first|exact .inl rfl|exact .inr (.inl rfl)|exact .inr (.inr (.inl rfl))|exact .inr (.inr (.inr rfl)))) hn)
  ·(refine h_ rfl rfl (λh=>?_) (λh=>?_)<;>rw [e_]at h)
   ·(refine a_ (u_ hp hn (by first|decide|omega) (by first|decide|omega)) rfl (J_ hA) ⟨?_,trivial⟩;intro ws hw;rcases hw with ⟨v,n,rfl,hv,hn⟩);(first
                                                                                                                                                        |exact j_ (x:=.mk 2 _ _ _ _ _ _ _ _ []) rfl (i_ (by decide)) hn
                                                                                                                                                        |exact j_ (x:=.mk 1 _ _ _ _ _ _ _ _ []) rfl (p_ (by unfold w_;omega) (by first|exact .inl rfl|exact .inr (.inl rfl)|exact .inr (.inr (.inl rfl))|exact .inr (.inr (.inr rfl)))) hn)
   ·(first
      |exact j_ (x:=.mk 2 _ _ _ _ _ _ _ _ []) rfl (i_ (by decide)) hn
      |exact j_ (x:=.mk 1 _ _ _ _ _ _ _ _ []) rfl (p_ (by unfold w_;omega) (by first|exact .inl rfl|exact .inr (.inl rfl)|exact .inr (.inr (.inl rfl))|exact .inr (.inr (.inr rfl)))) hn)
 (refine h_ rfl rfl (λh=>?_) (λh=>?_)<;>rw [e_]at h)
 ·(refine a_ (u_ hp hn (by first|decide|omega) (by first|decide|omega)) rfl (J_ hA) ⟨?_,trivial⟩;intro ws hw;rcases hw with ⟨v,n,rfl,hv,hn⟩);((have e4:v=0\/v=1\/v=2\/v=3:=by omega);rcases e4 with rfl|rfl|rfl|rfl)
  all_goals refine uR_ rfl rfl (uR_ rfl rfl ?_);(first
                                                        |exact j_ (x:=.mk 2 _ _ _ _ _ _ _ _ []) rfl (i_ (by decide)) hn
                                                        |exact j_ (x:=.mk 1 _ _ _ _ _ _ _ _ []) rfl (p_ (by unfold w_;omega) (by first|exact .inl rfl|exact .inr (.inl rfl)|exact .inr (.inr (.inl rfl))|exact .inr (.inr (.inr rfl)))) hn)
 ·(first
    |exact j_ (x:=.mk 2 _ _ _ _ _ _ _ _ []) rfl (i_ (by decide)) hn
    |exact j_ (x:=.mk 1 _ _ _ _ _ _ _ _ []) rfl (p_ (by unfold w_;omega) (by first|exact .inl rfl|exact .inr (.inl rfl)|exact .inr (.inr (.inl rfl))|exact .inr (.inr (.inr rfl)))) hn)
theorem p50 {l:List UInt8} {a:AV} (hp:Pk l a) (d:Nat) (hd2:d<=100) (h83:PX l a 52 (d+1)) (h81:1<=d->PX l a 50 d):PX l a 50 (d+1):=by
 intro n k hn hk;have hA:=hp.1.ok n5_;refine uD_ (c:=c50) (n:=300) (t:=t50) mo ov rfl (λY _=>uZ_ _) (by kernel_rfl) λY hf hg=>?_;unfold t50
 (refine h_ rfl rfl (λh=>?_) (λh=>?_)<;>rw [e_]at h)
 ·(refine a_ (h83 _ _ hn (by first|decide|(simp only [decide_eq_true_eq,decide_eq_false_iff_not]at *; omega))) rfl (t_ hA) ⟨?_,trivial⟩;intro ws hw;obtain ⟨⟨op,kd,nm,fd,ad,nn,vk,vi,vf,args⟩,n,rfl,hx,hn⟩:=hw);exact j_ (x:=.mk ..) rfl hx hn
 have hX:=h81 (by simp at h;omega)
 (refine a_ (u_ hp hn (by first|decide|omega) (by first|decide|omega)) rfl (J_ hA) ⟨?_,trivial⟩;intro ws hw;rcases hw with ⟨v,n,rfl,hv,hn⟩);(refine h_ rfl rfl (λh=>?_) (λh=>?_)<;>rw [e_]at h)
 ·(refine a_ (h83 _ _ hn (by first|decide|(simp only [decide_eq_true_eq,decide_eq_false_iff_not]at *; omega))) rfl (t_ hA) ⟨?_,trivial⟩;intro ws hw;obtain ⟨⟨op,kd,nm,fd,ad,nn,vk,vi,vf,args⟩,n,rfl,hx,hn⟩:=hw);exact j_ (x:=.mk ..) rfl hx hn
 (refine h_ rfl rfl (λh=>?_) (λh=>?_)<;>rw [e_]at h)
 ·(refine a_ (u_ hp hn (by first|decide|omega) (by first|decide|omega)) rfl (J_ hA) ⟨?_,trivial⟩;intro ws hw;rcases hw with ⟨v,n,rfl,hv,hn⟩);(refine h_ rfl rfl (λh=>?_) (λh=>?_)<;>rw [e_]at h)
  ·(refine uR_ (n_ (z:=(d:Int)) (by omega) (by omega) (by omega)) rfl ?_);(refine a_ (hX _ _ hn (by first|decide|(simp only [decide_eq_true_eq,decide_eq_false_iff_not]at *; omega))) rfl (t_ hA) ⟨?_,trivial⟩;intro ws hw;obtain ⟨⟨op,kd,nm,fd,ad,nn,vk,vi,vf,args⟩,n,rfl,hx,hn⟩:=hw);(exact j_ (x:=.mk _ _ _ _ _ _ _ _ _ [.mk ..]) rfl (Y_ (by first|decide|(refine .inr (.inr (.inr ⟨rfl,?_,?_⟩))<;>(simp only [decide_eq_true_eq,decide_eq_false_iff_not]at *; omega))) (by assumption)) hn)
  (refine h_ rfl rfl (λh=>?_) (λh=>?_)<;>rw [e_]at h)
  ·(refine a_ (u_ hp hn (by first|decide|omega) (by first|decide|omega)) rfl (J_ hA) ⟨?_,trivial⟩;intro ws hw;rcases hw with ⟨v,n,rfl,hv,hn⟩);(refine uR_ (o_ (by omega) (by omega)) rfl ?_);(refine uR_ (n_ (z:=(d:Int)) (by omega) (by omega) (by omega)) rfl ?_);(refine a_ (hX _ _ hn (by first|decide|(simp only [decide_eq_true_eq,decide_eq_false_iff_not]at *; omega))) rfl (t_ hA) ⟨?_,trivial⟩;intro ws hw;obtain ⟨⟨op,kd,nm,fd,ad,nn,vk,vi,vf,args⟩,n,rfl,hx,hn⟩:=hw);(refine uR_ (n_ (z:=(d:Int)) (by omega) (by omega) (by omega)) rfl ?_);(refine a_ (hX _ _ hn (by first|decide|(simp only [decide_eq_true_eq,decide_eq_false_iff_not]at *; omega))) rfl (t_ hA) ⟨?_,trivial⟩;intro ws hw;obtain ⟨⟨op,kd,nm,fd,ad,nn,vk,vi,vf,args⟩,n,rfl,hx,hn⟩:=hw);(exact j_ (x:=.mk _ _ _ _ _ _ _ _ _ [.mk ..,.mk ..]) rfl (Z_ (by omega) (by assumption) (by assumption)) hn)
  ·(refine a_ (u_ hp hn (by first|decide|omega) (by first|decide|omega)) rfl (J_ hA) ⟨?_,trivial⟩;intro ws hw;rcases hw with ⟨v,n,rfl,hv,hn⟩);(refine uR_ (o_ (by omega) (by omega)) rfl ?_);(refine a_ (u_ hp hn (by first|decide|omega) (by first|decide|omega)) rfl (J_ hA) ⟨?_,trivial⟩;intro ws hw;rcases hw with ⟨v,n,rfl,hv,hn⟩);(refine uR_ (o_ (by omega) (by omega)) rfl ?_);(refine uR_ (n_ (z:=(d:Int)) (by omega) (by omega) (by omega)) rfl ?_);(refine a_ (hX _ _ hn (by first|decide|(simp only [decide_eq_true_eq,decide_eq_false_iff_not]at *; omega))) rfl (t_ hA) ⟨?_,trivial⟩;intro ws hw;obtain ⟨⟨op,kd,nm,fd,ad,nn,vk,vi,vf,args⟩,n,rfl,hx,hn⟩:=hw);(refine uR_ (n_ (z:=(d:Int)) (by omega) (by omega) (by omega)) rfl ?_);(refine a_ (hX _ _ hn (by first|decide|(simp only [decide_eq_true_eq,decide_eq_false_iff_not]at *; omega))) rfl (t_ hA) ⟨?_,trivial⟩;intro ws hw;obtain ⟨⟨op,kd,nm,fd,ad,nn,vk,vi,vf,args⟩,n,rfl,hx,hn⟩:=hw);(exact j_ (x:=.mk _ _ _ _ _ _ _ _ _ [.mk ..,.mk ..]) rfl (Z_ (by omega) (by assumption) (by assumption)) hn)
 ·(refine a_ (u_ hp hn (by first|decide|omega) (by first|decide|omega)) rfl (J_ hA) ⟨?_,trivial⟩;intro ws hw;rcases hw with ⟨v,n,rfl,hv,hn⟩);(refine h_ rfl rfl (λh=>?_) (λh=>?_)<;>rw [e_]at h)
  ·(refine uR_ (n_ (z:=(d:Int)) (by omega) (by omega) (by omega)) rfl ?_);(refine a_ (hX _ _ hn (by first|decide|(simp only [decide_eq_true_eq,decide_eq_false_iff_not]at *; omega))) rfl (t_ hA) ⟨?_,trivial⟩;intro ws hw;obtain ⟨⟨op,kd,nm,fd,ad,nn,vk,vi,vf,args⟩,n,rfl,hx,hn⟩:=hw);(exact j_ (x:=.mk _ _ _ _ _ _ _ _ _ [.mk ..]) rfl (Y_ (by first|decide|(refine .inr (.inr (.inr ⟨rfl,?_,?_⟩))<;>(simp only [decide_eq_true_eq,decide_eq_false_iff_not]at *; omega))) (by assumption)) hn)
  (refine h_ rfl rfl (λh=>?_) (λh=>?_)<;>rw [e_]at h)
  ·(refine a_ (u_ hp hn (by first|decide|omega) (by first|decide|omega)) rfl (J_ hA) ⟨?_,trivial⟩;intro ws hw;rcases hw with ⟨v,n,rfl,hv,hn⟩);(refine uR_ (o_ (by omega) (by omega)) rfl ?_);(refine uR_ (n_ (z:=(d:Int)) (by omega) (by omega) (by omega)) rfl ?_);(refine a_ (hX _ _ hn (by first|decide|(simp only [decide_eq_true_eq,decide_eq_false_iff_not]at *; omega))) rfl (t_ hA) ⟨?_,trivial⟩;intro ws hw;obtain ⟨⟨op,kd,nm,fd,ad,nn,vk,vi,vf,args⟩,n,rfl,hx,hn⟩:=hw);(exact j_ (x:=.mk _ _ _ _ _ _ _ _ _ [.mk ..]) rfl (Y_ (by first|decide|(refine .inr (.inr (.inr ⟨rfl,?_,?_⟩))<;>(simp only [decide_eq_true_eq,decide_eq_false_iff_not]at *; omega))) (by assumption)) hn)
  (refine h_ rfl rfl (λh=>?_) (λh=>?_)<;>rw [e_]at h)
  ·(refine h_ rfl rfl (λh=>?_) (λh=>?_)<;>rw [e_]at h)
   ·(refine uR_ (n_ (z:=(d:Int)) (by omega) (by omega) (by omega)) rfl ?_);(refine a_ (hX _ _ hn (by first|decide|(simp only [decide_eq_true_eq,decide_eq_false_iff_not]at *; omega))) rfl (t_ hA) ⟨?_,trivial⟩;intro ws hw;obtain ⟨⟨op,kd,nm,fd,ad,nn,vk,vi,vf,args⟩,n,rfl,hx,hn⟩:=hw);(refine uR_ (n_ (z:=(d:Int)) (by omega) (by omega) (by omega)) rfl ?_);(refine a_ (hX _ _ hn (by first|decide|(simp only [decide_eq_true_eq,decide_eq_false_iff_not]at *; omega))) rfl (t_ hA) ⟨?_,trivial⟩;intro ws hw;obtain ⟨⟨op,kd,nm,fd,ad,nn,vk,vi,vf,args⟩,n,rfl,hx,hn⟩:=hw);(exact j_ (x:=.mk _ _ _ _ _ _ _ _ _ [.mk ..,.mk ..]) rfl (Z_ (by omega) (by assumption) (by assumption)) hn)
   ·(refine a_ (u_ hp hn (by first|decide|omega) (by first|decide|omega)) rfl (J_ hA) ⟨?_,trivial⟩;intro ws hw;rcases hw with ⟨v,n,rfl,hv,hn⟩);(refine uR_ (o_ (by omega) (by omega)) rfl ?_);(refine uR_ (n_ (z:=(d:Int)) (by omega) (by omega) (by omega)) rfl ?_);(refine a_ (hX _ _ hn (by first|decide|(simp only [decide_eq_true_eq,decide_eq_false_iff_not]at *; omega))) rfl (t_ hA) ⟨?_,trivial⟩;intro ws hw;obtain ⟨⟨op,kd,nm,fd,ad,nn,vk,vi,vf,args⟩,n,rfl,hx,hn⟩:=hw);(refine uR_ (n_ (z:=(d:Int)) (by omega) (by omega) (by omega)) rfl ?_);(refine a_ (hX _ _ hn (by first|decide|(simp only [decide_eq_true_eq,decide_eq_false_iff_not]at *; omega))) rfl (t_ hA) ⟨?_,trivial⟩;intro ws hw;obtain ⟨⟨op,kd,nm,fd,ad,nn,vk,vi,vf,args⟩,n,rfl,hx,hn⟩:=hw);(exact j_ (x:=.mk _ _ _ _ _ _ _ _ _ [.mk ..,.mk ..]) rfl (Z_ (by omega) (by assumption) (by assumption)) hn)
  ·(refine a_ (u_ hp hn (by first|decide|omega) (by first|decide|omega)) rfl (J_ hA) ⟨?_,trivial⟩;intro ws hw;rcases hw with ⟨v,n,rfl,hv,hn⟩);(refine uR_ (o_ (by omega) (by omega)) rfl ?_);(refine uR_ (n_ (z:=(d:Int)) (by omega) (by omega) (by omega)) rfl ?_);(refine a_ (hX _ _ hn (by first|decide|(simp only [decide_eq_true_eq,decide_eq_false_iff_not]at *; omega))) rfl (t_ hA) ⟨?_,trivial⟩;intro ws hw;obtain ⟨⟨op,kd,nm,fd,ad,nn,vk,vi,vf,args⟩,n,rfl,hx,hn⟩:=hw);(refine uR_ (n_ (z:=(d:Int)) (by omega) (by omega) (by omega)) rfl ?_);(refine a_ (hX _ _ hn (by first|decide|(simp only [decide_eq_true_eq,decide_eq_false_iff_not]at *; omega))) rfl (t_ hA) ⟨?_,trivial⟩;intro ws hw;obtain ⟨⟨op,kd,nm,fd,ad,nn,vk,vi,vf,args⟩,n,rfl,hx,hn⟩:=hw);(exact j_ (x:=.mk _ _ _ _ _ _ _ _ _ [.mk ..,.mk ..]) rfl (Z_ (by omega) (by assumption) (by assumption)) hn)
theorem pX {l:List UInt8} {a:AV} (hp:Pk l a):∀d:Nat,d<=100->PX l a 52 (d+1)/\PX l a 50 (d+1)
 |0,h=>by have h1:=p52 hp 0 h (λh=>by omega);exact ⟨h1,p50 hp 0 h h1 (λh=>by omega)⟩
 |d+1,h=>by have ih:=pX hp d (by omega);have h1:=p52 hp (d+1) h (λ_=>ih.2);exact ⟨h1,p50 hp (d+1) h h1 (λ_=>ih.2)⟩
end Go.Proofs.YtbjjpimpabbpdaaGreatDoor.vars
set_option maxRecDepth 100000
set_option linter.unusedVariables false
set_option linter.unusedSimpArgs false
namespace Go.Proofs.YtbjjpimpabbpdaaGreatDoor.vars
open Go Go.Sx
def RS (l:List UInt8) (d:Nat):Nat->List AV->Prop:=λ_ ws=>∃(x:GS) (n:Nat),ws=z_ x++[.int .i64 (n:Int)]/\WS d x/\n<=l.length
def RB (l:List UInt8) (d m:Nat):Nat->List AV->Prop:=λ_ ws=>∃(x:List GS) (n:Nat),ws=[r_ x,.int .i64 (n:Int)]/\(x.length<=m/\∀s∈x,WS d s)/\n<=l.length
def PS (l:List UInt8) (a:AV) (d:Nat):Prop:=∀n:Nat,n<=l.length->CF Tryz.prog 29 ft29 [a,.int .i64 (n:Int),.int .i64 (d:Int)] (RS l (d+1))
def PB (l:List UInt8) (a:AV) (d:Nat):Prop:=∀(n m:Nat),n<=l.length->1<=m->m<=10->CF Tryz.prog 13 ft13 [a,.int .i64 (n:Int),.int .i64 (m:Int),.int .i64 (d:Int)] (RB l (d+1) m)
theorem vn_ (x:GS) (n:Int):okL (z_ x++[.int .i64 n])=true:=ot_.okL_join (okS x) rfl
theorem v_ {l:List UInt8} {d n j:Nat} {x:GS} {hv:List AV} {Y:Sy} {L:List (Nat->List AV->Prop)} (h:ab_ Y.v hv=z_ x++[.int .i64 (n:Int)]) (hw:WS d x) (hn:n<=l.length):VOK Tryz.prog (QF (RS l d)) L Y (.done (.tup (.int .i64 (.ofNat j)::hv))):=
 VOK_fin (by rw [h];exact vn_ x n) ⟨x,n,h,hw,hn⟩
theorem y_ {d:Nat} {to e:GX} (h1:WX 5 to) (h2:to.op=2\/to.op=3) (h3:WX 5 e):WS (d+1) (.mk 1 to e [] [] [] 0 0 []):=.inl ⟨rfl,h1,h2,b_ (by omega) h3,rfl,rfl⟩
theorem k_ {d:Nat} {to e:GX} {nm:List UInt8} {kd ad:Int} {args:List GX} (h0:nm=[116,109]\/nm=[99]\/nm=[101]) (h1:args.length<=2) (h2:∀a∈args,WX 5 a):WS (d+1) (.mk 4 to e [] [] nm kd ad args):=.inr (.inr ⟨rfl,h0,h1,h2,rfl,rfl⟩)
theorem oI_ {d:Nat} {op:Int} {to e:GX} {thn els:List GS} {nm:List UInt8} {kd ad:Int} {args:List GX} (h1:op=2\/op=3) (h:WX 5 e) (h2:thn.length<=5) (h3:els.length<=5) (h4:∀s∈thn,WS d s) (h5:∀s∈els,WS d s):WS (d+1) (.mk op to e thn els nm kd ad args):=.inr (.inl ⟨h1,h,h2,h3,h4,h5⟩)
theorem qd_ {x:GX} (h:WX 5 x):∀a∈[x],WX 5 a:=λa ha=>by cases List.mem_singleton.1 ha;exact h
theorem bs_ {x y:GX} (h:WX 5 x) (h2:WX 5 y):∀a∈[x,y],WX 5 a:=λa ha=>by rcases List.mem_cons.1 ha with rfl|ha;exact h;exact qd_ h2 a ha
theorem E_ {s:List UInt8} (h:(s,[])∈N_):WX 5 (.mk 2 0 s [] 0 0 0 0 0 []):=i_ h
def c51:VC:=⟨⟨[],[]⟩,[],[],0,true,[]⟩
def t51:VT:=.done (.agg [J 2,J 0,64,.str [],J 0,J 0,J 0,J 0,.flt .f64 0,.nsl])
def c53:VC:=⟨⟨[],[]⟩,[],[],0,true,[]⟩
def t53:VT:=.done (.agg [J 1,J 0,.str [],.str [],J 0,J 0,64,65,66,.nsl])
theorem p51 (s:List UInt8):kD_ Tryz.prog 51 [.str s] (.agg (d_ (.mk 2 0 s [] 0 0 0 0 0 []))):=by refine tG_ (sh:=[none]) (ls:=[.str s]) (c:=c51) (n:=300) (t:=t51) mo ov rfl rfl rfl (λY _=>uZ_ _) rfl (by kernel_rfl) λY hf hg=>?_;unfold t51;exact t9_ rfl
theorem p53:kD_ Tryz.prog 53 [.agg [.int .i64 3,.int .i64 1,.flt .f64 0]] (.agg (d_ (.mk 1 0 [] [] 0 0 3 1 0 []))):=by refine tG_ (sh:=[some 3]) (ls:=[.int .i64 3,.int .i64 1,.flt .f64 0]) (c:=c53) (n:=300) (t:=t53) mo ov rfl rfl rfl (λY _=>uZ_ _) rfl (by kernel_rfl) λY hf hg=>?_;unfold t53;exact t9_ rfl
def c29:VC:=⟨⟨[],[]⟩,[(51,[(some 10)]),(53,[(some 10)])],[],1,true,[(28,ft28),(50,g_),(52,R_),(13,ft13)]⟩
def t29:VT:=
 (.callF 28 ft28 [64,65,J 12] 67
 (.cons 2
 (K Q0 [70,J 0] 72
 (.ite 72
 (K Qh [66,J 0] 73
 (.ite 73
 (.callF 50 g_ [64,71,J 1,J 3] 74
 (.cons 11
 (K Q3 [66,J 1] 89
 (.callF 13 ft13 [64,88,J 2,89] 90
 (.cons 2
 (.callF 28 ft28 [64,95,J 2] 96
 (.cons 2
 (K Q0 [99,J 0] 101
 (.ite 101
 (K Q3 [66,J 1] 102
 (.callF 13 ft13 [64,100,J 2,102] 103
 (.cons 2
 (.done (.tup [J 0,J 2,J 0,J 0,.str [],.str [],J 0,J 0,J 0,J 0,.flt .f64 0,.nsl,78,79,80,81,82,83,84,85,86,87,94,107,.str [],J 0,J 0,.nsl,108]))
 .nil)))
 (.done (.tup [J 0,J 2,J 0,J 0,.str [],.str [],J 0,J 0,J 0,J 0,.flt .f64 0,.nsl,78,79,80,81,82,83,84,85,86,87,94,.nsl,.str [],J 0,J 0,.nsl,100]))))
 .nil))
 .nil)))
 .nil))
 (K Q0 [70,J 1] 74
 (.ite 74
 (K Qh [66,J 0] 75
 (.ite 75
 (.call 51 [.str [120]] 76 [(some 10)]
 (.callF 52 R_ [64,71,J 2,J 1] 86
 (.cons 11
 (K Q3 [66,J 1] 101
 (.callF 13 ft13 [64,100,J 1,101] 102
 (.cons 2
 (.call 51 [.str [120]] 108 [(some 10)]
 (.call 51 [.str [120]] 118 [(some 10)]
 (.call 53 [.agg [J 3,J 1,.flt .f64 0]] 128 [(some 10)]
 (K Qk [106,.agg [J 1,108,109,110,111,112,113,114,115,116,117,J 4,J 0,.str [],.str [],J 0,J 0,J 0,J 0,.flt .f64 0,.vsl 2 10 [118,119,120,121,122,123,124,125,126,127,128,129,130,131,132,133,134,135,136,137],.nsl,.nsl,.str [],J 0,J 0,.nsl]] 138
 (.done (.tup [J 0,J 3,J 0,J 0,.str [],.str [],J 0,J 0,J 0,J 0,.flt .f64 0,.nsl,J 11,J 0,.str [],.str [],J 0,J 0,J 0,J 0,.flt .f64 0,.vsl 2 10 [76,77,78,79,80,81,82,83,84,85,90,91,92,93,94,95,96,97,98,99],138,.nsl,.str [],J 0,J 0,.nsl,107]))))))
 .nil)))
 .nil)))
 (K Q0 [70,J 2] 76
 (.ite 76
 (.callF 50 g_ [64,71,J 1,J 2] 77
 (.cons 11
 (.callF 50 g_ [64,91,J 4,J 2] 92
 (.cons 11
 (.done (.tup [J 0,J 4,J 0,J 0,.str [],.str [],J 0,J 0,J 0,J 0,.flt .f64 0,.nsl,J 0,J 0,.str [],.str [],J 0,J 0,J 0,J 0,.flt .f64 0,.nsl,.nsl,.nsl,.str [116,109],J 0,J 0,.vsl 2 10 [81,82,83,84,85,86,87,88,89,90,96,97,98,99,100,101,102,103,104,105],106]))
 .nil))
 .nil))
 (K Q0 [70,J 3] 77
 (.ite 77
 (.callF 50 g_ [64,71,J 1,J 2] 78
 (.cons 11
 (.callF 52 R_ [64,92,J 2,J 1] 93
 (.cons 11
 (.done (.tup [J 0,J 4,J 0,J 0,.str [],.str [],J 0,J 0,J 0,J 0,.flt .f64 0,.nsl,J 0,J 0,.str [],.str [],J 0,J 0,J 0,J 0,.flt .f64 0,.nsl,.nsl,.nsl,.str [99],J 0,J 0,.vsl 2 10 [82,83,84,85,86,87,88,89,90,91,97,98,99,100,101,102,103,104,105,106],107]))
 .nil))
 .nil))
 (K Q0 [70,J 4] 78
 (.ite 78
 (.callF 50 g_ [64,71,J 1,J 2] 79
 (.cons 11
 (.done (.tup [J 0,J 4,J 0,J 0,.str [],.str [],J 0,J 0,J 0,J 0,.flt .f64 0,.nsl,J 0,J 0,.str [],.str [],J 0,J 0,J 0,J 0,.flt .f64 0,.nsl,.nsl,.nsl,.str [101],J 0,J 0,.vsl 1 10 [83,84,85,86,87,88,89,90,91,92],93]))
 .nil))
 (K Q0 [70,J 5] 79
 (.ite 79
 (.callF 50 g_ [64,71,J 2,J 2] 80
 (.cons 11
 (.callF 50 g_ [64,94,J 2,J 3] 95
 (.cons 11
 (.done (.tup [J 0,J 1,J 3,J 0,.str [107],.str [],J 0,J 0,J 0,J 0,.flt .f64 0,.vsl 1 10 [84,85,86,87,88,89,90,91,92,93],99,100,101,102,103,104,105,106,107,108,.nsl,.nsl,.str [],J 0,J 0,.nsl,109]))
 .nil))
 .nil))
 (.callF 28 ft28 [64,71,J 6] 80
 (.cons 2
 (K Qo [.vsl 6 1 [.str [111],.str [120],.str [113],.str [121],.str [122],.str [119]],83] 85
 (K Qp [85] 86
 (K Qq [86] 87
 (.call 51 [86] 88 [(some 10)]
 (.callF 50 g_ [64,84,87,J 4] 98
 (.cons 11
 (.done (.tup [J 0,J 1,88,89,90,91,92,93,94,95,96,97,102,103,104,105,106,107,108,109,110,111,.nsl,.nsl,.str [],J 0,J 0,.nsl,112]))
 .nil))))))
 .nil))))))))))))
 (K Q0 [70,J 2] 75
 (.ite 75
 (.callF 50 g_ [64,71,J 1,J 2] 76
 (.cons 11
 (.callF 50 g_ [64,90,J 4,J 2] 91
 (.cons 11
 (.done (.tup [J 0,J 4,J 0,J 0,.str [],.str [],J 0,J 0,J 0,J 0,.flt .f64 0,.nsl,J 0,J 0,.str [],.str [],J 0,J 0,J 0,J 0,.flt .f64 0,.nsl,.nsl,.nsl,.str [116,109],J 0,J 0,.vsl 2 10 [80,81,82,83,84,85,86,87,88,89,95,96,97,98,99,100,101,102,103,104],105]))
 .nil))
 .nil))
 (K Q0 [70,J 3] 76
 (.ite 76
 (.callF 50 g_ [64,71,J 1,J 2] 77
 (.cons 11
 (.callF 52 R_ [64,91,J 2,J 1] 92
 (.cons 11
 (.done (.tup [J 0,J 4,J 0,J 0,.str [],.str [],J 0,J 0,J 0,J 0,.flt .f64 0,.nsl,J 0,J 0,.str [],.str [],J 0,J 0,J 0,J 0,.flt .f64 0,.nsl,.nsl,.nsl,.str [99],J 0,J 0,.vsl 2 10 [81,82,83,84,85,86,87,88,89,90,96,97,98,99,100,101,102,103,104,105],106]))
 .nil))
 .nil))
 (K Q0 [70,J 4] 77
 (.ite 77
 (.callF 50 g_ [64,71,J 1,J 2] 78
 (.cons 11
 (.done (.tup [J 0,J 4,J 0,J 0,.str [],.str [],J 0,J 0,J 0,J 0,.flt .f64 0,.nsl,J 0,J 0,.str [],.str [],J 0,J 0,J 0,J 0,.flt .f64 0,.nsl,.nsl,.nsl,.str [101],J 0,J 0,.vsl 1 10 [82,83,84,85,86,87,88,89,90,91],92]))
 .nil))
 (K Q0 [70,J 5] 78
 (.ite 78
 (.callF 50 g_ [64,71,J 2,J 2] 79
 (.cons 11
 (.callF 50 g_ [64,93,J 2,J 3] 94
 (.cons 11
 (.done (.tup [J 0,J 1,J 3,J 0,.str [107],.str [],J 0,J 0,J 0,J 0,.flt .f64 0,.vsl 1 10 [83,84,85,86,87,88,89,90,91,92],98,99,100,101,102,103,104,105,106,107,.nsl,.nsl,.str [],J 0,J 0,.nsl,108]))
 .nil))
 .nil))
 (.callF 28 ft28 [64,71,J 6] 79
 (.cons 2
 (K Qo [.vsl 6 1 [.str [111],.str [120],.str [113],.str [121],.str [122],.str [119]],82] 84
 (K Qp [84] 85
 (K Qq [85] 86
 (.call 51 [85] 87 [(some 10)]
 (.callF 50 g_ [64,83,86,J 4] 97
 (.cons 11
 (.done (.tup [J 0,J 1,87,88,89,90,91,92,93,94,95,96,101,102,103,104,105,106,107,108,109,110,.nsl,.nsl,.str [],J 0,J 0,.nsl,111]))
 .nil))))))
 .nil))))))))))))))
 (K Q0 [70,J 1] 73
 (.ite 73
 (K Qh [66,J 0] 74
 (.ite 74
 (.call 51 [.str [120]] 75 [(some 10)]
 (.callF 52 R_ [64,71,J 2,J 1] 85
 (.cons 11
 (K Q3 [66,J 1] 100
 (.callF 13 ft13 [64,99,J 1,100] 101
 (.cons 2
 (.call 51 [.str [120]] 107 [(some 10)]
 (.call 51 [.str [120]] 117 [(some 10)]
 (.call 53 [.agg [J 3,J 1,.flt .f64 0]] 127 [(some 10)]
 (K Qk [105,.agg [J 1,107,108,109,110,111,112,113,114,115,116,J 4,J 0,.str [],.str [],J 0,J 0,J 0,J 0,.flt .f64 0,.vsl 2 10 [117,118,119,120,121,122,123,124,125,126,127,128,129,130,131,132,133,134,135,136],.nsl,.nsl,.str [],J 0,J 0,.nsl]] 137
 (.done (.tup [J 0,J 3,J 0,J 0,.str [],.str [],J 0,J 0,J 0,J 0,.flt .f64 0,.nsl,J 11,J 0,.str [],.str [],J 0,J 0,J 0,J 0,.flt .f64 0,.vsl 2 10 [75,76,77,78,79,80,81,82,83,84,89,90,91,92,93,94,95,96,97,98],137,.nsl,.str [],J 0,J 0,.nsl,106]))))))
 .nil)))
 .nil)))
 (K Q0 [70,J 2] 75
 (.ite 75
 (.callF 50 g_ [64,71,J 1,J 2] 76
 (.cons 11
 (.callF 50 g_ [64,90,J 4,J 2] 91
 (.cons 11
 (.done (.tup [J 0,J 4,J 0,J 0,.str [],.str [],J 0,J 0,J 0,J 0,.flt .f64 0,.nsl,J 0,J 0,.str [],.str [],J 0,J 0,J 0,J 0,.flt .f64 0,.nsl,.nsl,.nsl,.str [116,109],J 0,J 0,.vsl 2 10 [80,81,82,83,84,85,86,87,88,89,95,96,97,98,99,100,101,102,103,104],105]))
 .nil))
 .nil))
 (K Q0 [70,J 3] 76
 (.ite 76
 (.callF 50 g_ [64,71,J 1,J 2] 77
 (.cons 11
 (.callF 52 R_ [64,91,J 2,J 1] 92
 (.cons 11
 (.done (.tup [J 0,J 4,J 0,J 0,.str [],.str [],J 0,J 0,J 0,J 0,.flt .f64 0,.nsl,J 0,J 0,.str [],.str [],J 0,J 0,J 0,J 0,.flt .f64 0,.nsl,.nsl,.nsl,.str [99],J 0,J 0,.vsl 2 10 [81,82,83,84,85,86,87,88,89,90,96,97,98,99,100,101,102,103,104,105],106]))
 .nil))
 .nil))
 (K Q0 [70,J 4] 77
 (.ite 77
 (.callF 50 g_ [64,71,J 1,J 2] 78
 (.cons 11
 (.done (.tup [J 0,J 4,J 0,J 0,.str [],.str [],J 0,J 0,J 0,J 0,.flt .f64 0,.nsl,J 0,J 0,.str [],.str [],J 0,J 0,J 0,J 0,.flt .f64 0,.nsl,.nsl,.nsl,.str [101],J 0,J 0,.vsl 1 10 [82,83,84,85,86,87,88,89,90,91],92]))
 .nil))
 (K Q0 [70,J 5] 78
 (.ite 78
 (.callF 50 g_ [64,71,J 2,J 2] 79
 (.cons 11
 (.callF 50 g_ [64,93,J 2,J 3] 94
 (.cons 11
 (.done (.tup [J 0,J 1,J 3,J 0,.str [107],.str [],J 0,J 0,J 0,J 0,.flt .f64 0,.vsl 1 10 [83,84,85,86,87,88,89,90,91,92],98,99,100,101,102,103,104,105,106,107,.nsl,.nsl,.str [],J 0,J 0,.nsl,108]))
 .nil))
 .nil))
 (.callF 28 ft28 [64,71,J 6] 79
 (.cons 2
 (K Qo [.vsl 6 1 [.str [111],.str [120],.str [113],.str [121],.str [122],.str [119]],82] 84
 (K Qp [84] 85
 (K Qq [85] 86
 (.call 51 [85] 87 [(some 10)]
 (.callF 50 g_ [64,83,86,J 4] 97
 (.cons 11
 (.done (.tup [J 0,J 1,87,88,89,90,91,92,93,94,95,96,101,102,103,104,105,106,107,108,109,110,.nsl,.nsl,.str [],J 0,J 0,.nsl,111]))
 .nil))))))
 .nil))))))))))))
 (K Q0 [70,J 2] 74
 (.ite 74
 (.callF 50 g_ [64,71,J 1,J 2] 75
 (.cons 11
 (.callF 50 g_ [64,89,J 4,J 2] 90
 (.cons 11
 (.done (.tup [J 0,J 4,J 0,J 0,.str [],.str [],J 0,J 0,J 0,J 0,.flt .f64 0,.nsl,J 0,J 0,.str [],.str [],J 0,J 0,J 0,J 0,.flt .f64 0,.nsl,.nsl,.nsl,.str [116,109],J 0,J 0,.vsl 2 10 [79,80,81,82,83,84,85,86,87,88,94,95,96,97,98,99,100,101,102,103],104]))
 .nil))
 .nil))
 (K Q0 [70,J 3] 75
 (.ite 75
 (.callF 50 g_ [64,71,J 1,J 2] 76
 (.cons 11
 (.callF 52 R_ [64,90,J 2,J 1] 91
 (.cons 11
 (.done (.tup [J 0,J 4,J 0,J 0,.str [],.str [],J 0,J 0,J 0,J 0,.flt .f64 0,.nsl,J 0,J 0,.str [],.str [],J 0,J 0,J 0,J 0,.flt .f64 0,.nsl,.nsl,.nsl,.str [99],J 0,J 0,.vsl 2 10 [80,81,82,83,84,85,86,87,88,89,95,96,97,98,99,100,101,102,103,104],105]))
 .nil))
 .nil))
 (K Q0 [70,J 4] 76
 (.ite 76
 (.callF 50 g_ [64,71,J 1,J 2] 77
 (.cons 11
 (.done (.tup [J 0,J 4,J 0,J 0,.str [],.str [],J 0,J 0,J 0,J 0,.flt .f64 0,.nsl,J 0,J 0,.str [],.str [],J 0,J 0,J 0,J 0,.flt .f64 0,.nsl,.nsl,.nsl,.str [101],J 0,J 0,.vsl 1 10 [81,82,83,84,85,86,87,88,89,90],91]))
 .nil))
 (K Q0 [70,J 5] 77
 (.ite 77
 (.callF 50 g_ [64,71,J 2,J 2] 78
 (.cons 11
 (.callF 50 g_ [64,92,J 2,J 3] 93
 (.cons 11
 (.done (.tup [J 0,J 1,J 3,J 0,.str [107],.str [],J 0,J 0,J 0,J 0,.flt .f64 0,.vsl 1 10 [82,83,84,85,86,87,88,89,90,91],97,98,99,100,101,102,103,104,105,106,.nsl,.nsl,.str [],J 0,J 0,.nsl,107]))
 .nil))
 .nil))
 (.callF 28 ft28 [64,71,J 6] 78
 (.cons 2
 (K Qo [.vsl 6 1 [.str [111],.str [120],.str [113],.str [121],.str [122],.str [119]],81] 83
 (K Qp [83] 84
 (K Qq [84] 85
 (.call 51 [84] 86 [(some 10)]
 (.callF 50 g_ [64,82,85,J 4] 96
 (.cons 11
 (.done (.tup [J 0,J 1,86,87,88,89,90,91,92,93,94,95,100,101,102,103,104,105,106,107,108,109,.nsl,.nsl,.str [],J 0,J 0,.nsl,110]))
 .nil))))))
 .nil))))))))))))))
 .nil))
def c13:VC:=⟨⟨[],[]⟩,[],[(0,[⟨[(8,.slx 0 0 0),(2,67),(0,.ptr 0 0),(7,.slx 1 27 1)],[(0,[64,.slx 2 0 0])],2,3,[⟨1,27,1,7,none⟩],[],[]⟩])],1,true,[(28,ft28),(29,ft29)]⟩
def t13:VT:=
 (.callF 28 ft28 [64,65,66] 68
 (.cons 2
 (K Q9 [71,J 1] 73
 (.loop 74 0 [73,.nsl,72]
 (.cons 3
 (K Qh [74,J 0] 77
 (.ite 77
 (.callF 29 ft29 [64,76,67] 78
 (.cons 28
 (K Qk [75,.agg [81,82,83,84,85,86,87,88,89,90,91,92,93,94,95,96,97,98,99,100,101,102,103,104,105,106,107]] 109
 (K Q3 [74,J 1] 110
 (.again 0 0 [110,109,108])))
 .nil))
 (.done (.tup [J 0,75,76]))))
 .nil)))
 .nil))
theorem q_ (l:List GS) (s:GS) (hl:l.length<=1000):(XOp.app 27 336).run Tryz.prog [r_ l,.agg (z_ s)]=some (r_ (l++[s])):=by rw [L_,L_];exact tJ_ uJ_ (by decide) (by decide) l s (by omega)
theorem okR {a:AV} (h:okC a=true) {n m k:Int}:okL [a,.int .i64 n,.int .i64 m,.int .i64 k]=true:=by simp only [okL,okC,h]
theorem p29 {l:List UInt8} {a:AV} (hp:Pk l a) (d:Nat) (hd2:d<=100) (hB:∀e,d=e+1->PB l a e):PS l a d:=by
 intro n hn;have hA:=hp.1.ok n5_;have h2:∀(n:Nat) (k:Int),n<=l.length->1<=k/\k<=5->CF Tryz.prog 50 ftX [a,.int .i64 (n:Int),.int .i64 k,.int .i64 2] (RX l 2):=(pX hp 1 (by decide)).2;have h3:∀(n:Nat) (k:Int),n<=l.length->1<=k/\k<=5->CF Tryz.prog 50 ftX [a,.int .i64 (n:Int),.int .i64 k,.int .i64 3] (RX l 3):=(pX hp 2 (by decide)).2;have h4:∀(n:Nat) (k:Int),n<=l.length->1<=k/\k<=5->CF Tryz.prog 50 ftX [a,.int .i64 (n:Int),.int .i64 k,.int .i64 4] (RX l 4):=(pX hp 3 (by decide)).2;have h31:∀(n:Nat) (k:Int),n<=l.length->1<=k/\k<=5->CF Tryz.prog 52 ftX [a,.int .i64 (n:Int),.int .i64 k,.int .i64 1] (RX l 1):=(pX hp 0 (by decide)).1;refine uD_ (c:=c29) (n:=300) (t:=t29) mo ov rfl (λY _=>uZ_ _) (by kernel_rfl) λY hf hg=>?_;unfold t29
 (refine a_ (u_ hp hn (by first|decide|omega) (by first|decide|omega)) rfl (J_ hA) ⟨?_,trivial⟩;intro ws hw;rcases hw with ⟨v,n,rfl,hv,hn⟩)
 (refine h_ rfl rfl (λh=>?_) (λh=>?_)<;>rw [e_]at h)
 ·(refine h_ rfl rfl (λh=>?_) (λh=>?_)<;>rw [e_]at h)
  .obtain ⟨e,rfl⟩:∃e,d=e+1:=⟨d-1,by simp at h;omega⟩;have hB:=hB e rfl
   (refine a_ (h3 _ _ hn (by decide)) rfl (t_ hA) ⟨?_,trivial⟩;intro ws hw;obtain ⟨⟨op,kd,nm,fd,ad,nn,vk,vi,vf,args⟩,n,rfl,hx,hn⟩:=hw;replace hx:=b_ (e:=5) (by decide) hx)
   refine uR_ (n_ (z:=(e:Int)) (by omega) (by omega) (by omega)) rfl ?_;refine a_ (hB _ 2 hn (by decide) (by decide)) rfl (okR hA) ⟨?_,trivial⟩;rintro ws ⟨thn,n,rfl,⟨ht,hts⟩,hn⟩
   (refine a_ (u_ hp hn (by first|decide|omega) (by first|decide|omega)) rfl (J_ hA) ⟨?_,trivial⟩;intro ws hw;rcases hw with ⟨v,n,rfl,hv,hn⟩)
   (refine h_ rfl rfl (λh=>?_) (λh=>?_)<;>rw [e_]at h)
   refine uR_ (n_ (z:=(e:Int)) (by omega) (by omega) (by omega)) rfl ?_;refine a_ (hB _ 2 hn (by decide) (by decide)) rfl (okR hA) ⟨?_,trivial⟩;rintro ws ⟨els,n,rfl,⟨he,hes⟩,hn⟩;exact v_ (x:=.mk _ (.mk _ _ _ _ _ _ _ _ _ []) (.mk ..) thn els _ _ _ []) rfl (oI_ (.inl rfl) (by assumption) (by omega) (by omega) hts hes) hn;exact v_ (x:=.mk _ (.mk _ _ _ _ _ _ _ _ _ []) (.mk ..) thn [] _ _ _ []) rfl (oI_ (.inl rfl) (by assumption) (by omega) (by decide) hts (λs hs=>(List.not_mem_nil hs).elim)) hn
  ·(
    (refine h_ rfl rfl (λh=>?_) (λh=>?_)<;>rw [e_]at h)
    ·(refine h_ rfl rfl (λh=>?_) (λh=>?_)<;>rw [e_]at h)
     .obtain ⟨e,rfl⟩:∃e,d=e+1:=⟨d-1,by simp at h;omega⟩;have hB:=hB e rfl;refine t8_ (p51 _) rfl rfl ?_
      (refine a_ (h31 _ _ hn (by first|decide|(simp only [decide_eq_true_eq,decide_eq_false_iff_not]at *; omega))) rfl (t_ hA) ⟨?_,trivial⟩;intro ws hw;obtain ⟨⟨op,kd,nm,fd,ad,nn,vk,vi,vf,args⟩,n,rfl,hx,hn⟩:=hw)
      refine uR_ (n_ (z:=(e:Int)) (by omega) (by omega) (by omega)) rfl ?_;refine a_ (hB _ 1 hn (by decide) (by decide)) rfl (okR hA) ⟨?_,trivial⟩;rintro ws ⟨thn,n,rfl,⟨ht,hts⟩,hn⟩;refine t8_ (p51 _) rfl rfl (t8_ (p51 _) rfl rfl (t8_ p53 rfl rfl ?_));refine uR_ (q_ thn (.mk 1 (.mk _ _ _ _ _ _ _ _ _ []) (.mk _ _ _ _ _ _ _ _ _ [.mk _ _ _ _ _ _ _ _ _ [],.mk _ _ _ _ _ _ _ _ _ []]) [] [] _ _ _ []) (by omega)) (okB _) ?_;refine v_ (x:=.mk _ (.mk _ _ _ _ _ _ _ _ _ []) (.mk _ _ _ _ _ _ _ _ _ [.mk _ _ _ _ _ _ _ _ _ [],.mk ..]) (thn++[_]) [] _ _ _ []) rfl (oI_ (.inr rfl) ?_ ?_ (by decide) ?_ (λs hs=>(List.not_mem_nil hs).elim)) hn;exact Z_ (by decide) (i_ (by decide)) (b_ (e:=4) (by decide) hx);rw [List.length_append];simp;omega;intro s hs;rcases List.mem_append.1 hs with hs|hs;exact hts s hs;cases List.mem_singleton.1 hs;exact y_ (E_ (by decide)) (.inl rfl) (Z_ (by decide) (i_ (by decide)) (p_ (by unfold w_;omega) (.inl rfl)))
     ·(
       (refine h_ rfl rfl (λh=>?_) (λh=>?_)<;>rw [e_]at h)
       ·(refine a_ (h2 _ _ hn (by decide)) rfl (t_ hA) ⟨?_,trivial⟩;intro ws hw;obtain ⟨⟨op,kd,nm,fd,ad,nn,vk,vi,vf,args⟩,n,rfl,hx,hn⟩:=hw;replace hx:=b_ (e:=5) (by decide) hx);(refine a_ (h2 _ _ hn (by decide)) rfl (t_ hA) ⟨?_,trivial⟩;intro ws hw;obtain ⟨⟨op,kd,nm,fd,ad,nn,vk,vi,vf,args⟩,n,rfl,hx,hn⟩:=hw;replace hx:=b_ (e:=5) (by decide) hx);exact v_ (x:=.mk _ (.mk _ _ _ _ _ _ _ _ _ []) (.mk _ _ _ _ _ _ _ _ _ []) [] [] _ _ _ [.mk ..,.mk ..]) rfl (k_ (by decide) (by simp) (bs_ (by assumption) (by assumption))) hn
       (refine h_ rfl rfl (λh=>?_) (λh=>?_)<;>rw [e_]at h)
       ·(refine a_ (h2 _ _ hn (by decide)) rfl (t_ hA) ⟨?_,trivial⟩;intro ws hw;obtain ⟨⟨op,kd,nm,fd,ad,nn,vk,vi,vf,args⟩,n,rfl,hx,hn⟩:=hw;replace hx:=b_ (e:=5) (by decide) hx);(refine a_ (h31 _ _ hn (by decide)) rfl (t_ hA) ⟨?_,trivial⟩;intro ws hw;obtain ⟨⟨op,kd,nm,fd,ad,nn,vk,vi,vf,args⟩,n,rfl,hx,hn⟩:=hw;replace hx:=b_ (e:=5) (by decide) hx);exact v_ (x:=.mk _ (.mk _ _ _ _ _ _ _ _ _ []) (.mk _ _ _ _ _ _ _ _ _ []) [] [] _ _ _ [.mk ..,.mk ..]) rfl (k_ (by decide) (by simp) (bs_ (by assumption) (by assumption))) hn
       (refine h_ rfl rfl (λh=>?_) (λh=>?_)<;>rw [e_]at h)
       ·(refine a_ (h2 _ _ hn (by decide)) rfl (t_ hA) ⟨?_,trivial⟩;intro ws hw;obtain ⟨⟨op,kd,nm,fd,ad,nn,vk,vi,vf,args⟩,n,rfl,hx,hn⟩:=hw;replace hx:=b_ (e:=5) (by decide) hx);exact v_ (x:=.mk _ (.mk _ _ _ _ _ _ _ _ _ []) (.mk _ _ _ _ _ _ _ _ _ []) [] [] _ _ _ [.mk ..]) rfl (k_ (by decide) (by simp) (qd_ (by assumption))) hn
       (refine h_ rfl rfl (λh=>?_) (λh=>?_)<;>rw [e_]at h)
       ·(refine a_ (h2 _ _ hn (by first|decide|(simp only [decide_eq_true_eq,decide_eq_false_iff_not]at *; omega))) rfl (t_ hA) ⟨?_,trivial⟩;intro ws hw;obtain ⟨⟨op,kd,nm,fd,ad,nn,vk,vi,vf,args⟩,n,rfl,hx,hn⟩:=hw);rename WX _ _=>hx0;(refine a_ (h3 _ _ hn (by decide)) rfl (t_ hA) ⟨?_,trivial⟩;intro ws hw;obtain ⟨⟨op,kd,nm,fd,ad,nn,vk,vi,vf,args⟩,n,rfl,hx,hn⟩:=hw;replace hx:=b_ (e:=5) (by decide) hx)
        exact v_ (x:=.mk _ (.mk _ _ _ _ _ _ _ _ _ [.mk ..]) (.mk ..) [] [] _ _ _ []) rfl (y_ (b_ (d:=4) (by decide) (Y_ (by decide) hx0)) (.inr rfl) (by assumption)) hn
       ·(refine a_ (u_ hp hn (by first|decide|omega) (by first|decide|omega)) rfl (J_ hA) ⟨?_,trivial⟩;intro ws hw;rcases hw with ⟨v,n,rfl,hv,hn⟩)
        have e6:v=0\/v=1\/v=2\/v=3\/v=4\/v=5:=(by omega);rcases e6 with rfl|rfl|rfl|rfl|rfl|rfl;all_goals
         refine uR_ rfl rfl (uR_ rfl rfl (uR_ rfl rfl (t8_ (p51 _) rfl rfl ?_)))
         (refine a_ (h4 _ _ hn (by decide)) rfl (t_ hA) ⟨?_,trivial⟩;intro ws hw;obtain ⟨⟨op,kd,nm,fd,ad,nn,vk,vi,vf,args⟩,n,rfl,hx,hn⟩:=hw;replace hx:=b_ (e:=5) (by decide) hx)
         exact v_ (x:=.mk _ (.mk _ _ _ _ _ _ _ _ _ []) (.mk ..) [] [] _ _ _ []) rfl (y_ (E_ (by decide)) (.inl rfl) (by assumption)) hn)
    ·(
      (refine h_ rfl rfl (λh=>?_) (λh=>?_)<;>rw [e_]at h)
      ·(refine a_ (h2 _ _ hn (by decide)) rfl (t_ hA) ⟨?_,trivial⟩;intro ws hw;obtain ⟨⟨op,kd,nm,fd,ad,nn,vk,vi,vf,args⟩,n,rfl,hx,hn⟩:=hw;replace hx:=b_ (e:=5) (by decide) hx);(refine a_ (h2 _ _ hn (by decide)) rfl (t_ hA) ⟨?_,trivial⟩;intro ws hw;obtain ⟨⟨op,kd,nm,fd,ad,nn,vk,vi,vf,args⟩,n,rfl,hx,hn⟩:=hw;replace hx:=b_ (e:=5) (by decide) hx);exact v_ (x:=.mk _ (.mk _ _ _ _ _ _ _ _ _ []) (.mk _ _ _ _ _ _ _ _ _ []) [] [] _ _ _ [.mk ..,.mk ..]) rfl (k_ (by decide) (by simp) (bs_ (by assumption) (by assumption))) hn
      (refine h_ rfl rfl (λh=>?_) (λh=>?_)<;>rw [e_]at h)
      ·(refine a_ (h2 _ _ hn (by decide)) rfl (t_ hA) ⟨?_,trivial⟩;intro ws hw;obtain ⟨⟨op,kd,nm,fd,ad,nn,vk,vi,vf,args⟩,n,rfl,hx,hn⟩:=hw;replace hx:=b_ (e:=5) (by decide) hx);(refine a_ (h31 _ _ hn (by decide)) rfl (t_ hA) ⟨?_,trivial⟩;intro ws hw;obtain ⟨⟨op,kd,nm,fd,ad,nn,vk,vi,vf,args⟩,n,rfl,hx,hn⟩:=hw;replace hx:=b_ (e:=5) (by decide) hx);exact v_ (x:=.mk _ (.mk _ _ _ _ _ _ _ _ _ []) (.mk _ _ _ _ _ _ _ _ _ []) [] [] _ _ _ [.mk ..,.mk ..]) rfl (k_ (by decide) (by simp) (bs_ (by assumption) (by assumption))) hn
      (refine h_ rfl rfl (λh=>?_) (λh=>?_)<;>rw [e_]at h)
      ·(refine a_ (h2 _ _ hn (by decide)) rfl (t_ hA) ⟨?_,trivial⟩;intro ws hw;obtain ⟨⟨op,kd,nm,fd,ad,nn,vk,vi,vf,args⟩,n,rfl,hx,hn⟩:=hw;replace hx:=b_ (e:=5) (by decide) hx);exact v_ (x:=.mk _ (.mk _ _ _ _ _ _ _ _ _ []) (.mk _ _ _ _ _ _ _ _ _ []) [] [] _ _ _ [.mk ..]) rfl (k_ (by decide) (by simp) (qd_ (by assumption))) hn
      (refine h_ rfl rfl (λh=>?_) (λh=>?_)<;>rw [e_]at h)
      ·(refine a_ (h2 _ _ hn (by first|decide|(simp only [decide_eq_true_eq,decide_eq_false_iff_not]at *; omega))) rfl (t_ hA) ⟨?_,trivial⟩;intro ws hw;obtain ⟨⟨op,kd,nm,fd,ad,nn,vk,vi,vf,args⟩,n,rfl,hx,hn⟩:=hw);rename WX _ _=>hx0;(refine a_ (h3 _ _ hn (by decide)) rfl (t_ hA) ⟨?_,trivial⟩;intro ws hw;obtain ⟨⟨op,kd,nm,fd,ad,nn,vk,vi,vf,args⟩,n,rfl,hx,hn⟩:=hw;replace hx:=b_ (e:=5) (by decide) hx)
       exact v_ (x:=.mk _ (.mk _ _ _ _ _ _ _ _ _ [.mk ..]) (.mk ..) [] [] _ _ _ []) rfl (y_ (b_ (d:=4) (by decide) (Y_ (by decide) hx0)) (.inr rfl) (by assumption)) hn
      ·(refine a_ (u_ hp hn (by first|decide|omega) (by first|decide|omega)) rfl (J_ hA) ⟨?_,trivial⟩;intro ws hw;rcases hw with ⟨v,n,rfl,hv,hn⟩)
       have e6:v=0\/v=1\/v=2\/v=3\/v=4\/v=5:=(by omega);rcases e6 with rfl|rfl|rfl|rfl|rfl|rfl;all_goals
        refine uR_ rfl rfl (uR_ rfl rfl (uR_ rfl rfl (t8_ (p51 _) rfl rfl ?_)))
        (refine a_ (h4 _ _ hn (by decide)) rfl (t_ hA) ⟨?_,trivial⟩;intro ws hw;obtain ⟨⟨op,kd,nm,fd,ad,nn,vk,vi,vf,args⟩,n,rfl,hx,hn⟩:=hw;replace hx:=b_ (e:=5) (by decide) hx)
        exact v_ (x:=.mk _ (.mk _ _ _ _ _ _ _ _ _ []) (.mk ..) [] [] _ _ _ []) rfl (y_ (E_ (by decide)) (.inl rfl) (by assumption)) hn))
 ·(
   (refine h_ rfl rfl (λh=>?_) (λh=>?_)<;>rw [e_]at h)
   ·(refine h_ rfl rfl (λh=>?_) (λh=>?_)<;>rw [e_]at h)
    .obtain ⟨e,rfl⟩:∃e,d=e+1:=⟨d-1,by simp at h;omega⟩;have hB:=hB e rfl;refine t8_ (p51 _) rfl rfl ?_
     (refine a_ (h31 _ _ hn (by first|decide|(simp only [decide_eq_true_eq,decide_eq_false_iff_not]at *; omega))) rfl (t_ hA) ⟨?_,trivial⟩;intro ws hw;obtain ⟨⟨op,kd,nm,fd,ad,nn,vk,vi,vf,args⟩,n,rfl,hx,hn⟩:=hw)
     refine uR_ (n_ (z:=(e:Int)) (by omega) (by omega) (by omega)) rfl ?_;refine a_ (hB _ 1 hn (by decide) (by decide)) rfl (okR hA) ⟨?_,trivial⟩;rintro ws ⟨thn,n,rfl,⟨ht,hts⟩,hn⟩;refine t8_ (p51 _) rfl rfl (t8_ (p51 _) rfl rfl (t8_ p53 rfl rfl ?_));refine uR_ (q_ thn (.mk 1 (.mk _ _ _ _ _ _ _ _ _ []) (.mk _ _ _ _ _ _ _ _ _ [.mk _ _ _ _ _ _ _ _ _ [],.mk _ _ _ _ _ _ _ _ _ []]) [] [] _ _ _ []) (by omega)) (okB _) ?_;refine v_ (x:=.mk _ (.mk _ _ _ _ _ _ _ _ _ []) (.mk _ _ _ _ _ _ _ _ _ [.mk _ _ _ _ _ _ _ _ _ [],.mk ..]) (thn++[_]) [] _ _ _ []) rfl (oI_ (.inr rfl) ?_ ?_ (by decide) ?_ (λs hs=>(List.not_mem_nil hs).elim)) hn;exact Z_ (by decide) (i_ (by decide)) (b_ (e:=4) (by decide) hx);rw [List.length_append];simp;omega;intro s hs;rcases List.mem_append.1 hs with hs|hs;exact hts s hs;cases List.mem_singleton.1 hs;exact y_ (E_ (by decide)) (.inl rfl) (Z_ (by decide) (i_ (by decide)) (p_ (by unfold w_;omega) (.inl rfl)))
    ·(
      (refine h_ rfl rfl (λh=>?_) (λh=>?_)<;>rw [e_]at h)
      ·(refine a_ (h2 _ _ hn (by decide)) rfl (t_ hA) ⟨?_,trivial⟩;intro ws hw;obtain ⟨⟨op,kd,nm,fd,ad,nn,vk,vi,vf,args⟩,n,rfl,hx,hn⟩:=hw;replace hx:=b_ (e:=5) (by decide) hx);(refine a_ (h2 _ _ hn (by decide)) rfl (t_ hA) ⟨?_,trivial⟩;intro ws hw;obtain ⟨⟨op,kd,nm,fd,ad,nn,vk,vi,vf,args⟩,n,rfl,hx,hn⟩:=hw;replace hx:=b_ (e:=5) (by decide) hx);exact v_ (x:=.mk _ (.mk _ _ _ _ _ _ _ _ _ []) (.mk _ _ _ _ _ _ _ _ _ []) [] [] _ _ _ [.mk ..,.mk ..]) rfl (k_ (by decide) (by simp) (bs_ (by assumption) (by assumption))) hn
      (refine h_ rfl rfl (λh=>?_) (λh=>?_)<;>rw [e_]at h)
      ·(refine a_ (h2 _ _ hn (by decide)) rfl (t_ hA) ⟨?_,trivial⟩;intro ws hw;obtain ⟨⟨op,kd,nm,fd,ad,nn,vk,vi,vf,args⟩,n,rfl,hx,hn⟩:=hw;replace hx:=b_ (e:=5) (by decide) hx);(refine a_ (h31 _ _ hn (by decide)) rfl (t_ hA) ⟨?_,trivial⟩;intro ws hw;obtain ⟨⟨op,kd,nm,fd,ad,nn,vk,vi,vf,args⟩,n,rfl,hx,hn⟩:=hw;replace hx:=b_ (e:=5) (by decide) hx);exact v_ (x:=.mk _ (.mk _ _ _ _ _ _ _ _ _ []) (.mk _ _ _ _ _ _ _ _ _ []) [] [] _ _ _ [.mk ..,.mk ..]) rfl (k_ (by decide) (by simp) (bs_ (by assumption) (by assumption))) hn
      (refine h_ rfl rfl (λh=>?_) (λh=>?_)<;>rw [e_]at h)
      ·(refine a_ (h2 _ _ hn (by decide)) rfl (t_ hA) ⟨?_,trivial⟩;intro ws hw;obtain ⟨⟨op,kd,nm,fd,ad,nn,vk,vi,vf,args⟩,n,rfl,hx,hn⟩:=hw;replace hx:=b_ (e:=5) (by decide) hx);exact v_ (x:=.mk _ (.mk _ _ _ _ _ _ _ _ _ []) (.mk _ _ _ _ _ _ _ _ _ []) [] [] _ _ _ [.mk ..]) rfl (k_ (by decide) (by simp) (qd_ (by assumption))) hn
      (refine h_ rfl rfl (λh=>?_) (λh=>?_)<;>rw [e_]at h)
      ·(refine a_ (h2 _ _ hn (by first|decide|(simp only [decide_eq_true_eq,decide_eq_false_iff_not]at *; omega))) rfl (t_ hA) ⟨?_,trivial⟩;intro ws hw;obtain ⟨⟨op,kd,nm,fd,ad,nn,vk,vi,vf,args⟩,n,rfl,hx,hn⟩:=hw);rename WX _ _=>hx0;(refine a_ (h3 _ _ hn (by decide)) rfl (t_ hA) ⟨?_,trivial⟩;intro ws hw;obtain ⟨⟨op,kd,nm,fd,ad,nn,vk,vi,vf,args⟩,n,rfl,hx,hn⟩:=hw;replace hx:=b_ (e:=5) (by decide) hx)
       exact v_ (x:=.mk _ (.mk _ _ _ _ _ _ _ _ _ [.mk ..]) (.mk ..) [] [] _ _ _ []) rfl (y_ (b_ (d:=4) (by decide) (Y_ (by decide) hx0)) (.inr rfl) (by assumption)) hn
      ·(refine a_ (u_ hp hn (by first|decide|omega) (by first|decide|omega)) rfl (J_ hA) ⟨?_,trivial⟩;intro ws hw;rcases hw with ⟨v,n,rfl,hv,hn⟩)
       have e6:v=0\/v=1\/v=2\/v=3\/v=4\/v=5:=(by omega);rcases e6 with rfl|rfl|rfl|rfl|rfl|rfl;all_goals
        refine uR_ rfl rfl (uR_ rfl rfl (uR_ rfl rfl (t8_ (p51 _) rfl rfl ?_)))
        (refine a_ (h4 _ _ hn (by decide)) rfl (t_ hA) ⟨?_,trivial⟩;intro ws hw;obtain ⟨⟨op,kd,nm,fd,ad,nn,vk,vi,vf,args⟩,n,rfl,hx,hn⟩:=hw;replace hx:=b_ (e:=5) (by decide) hx)
        exact v_ (x:=.mk _ (.mk _ _ _ _ _ _ _ _ _ []) (.mk ..) [] [] _ _ _ []) rfl (y_ (E_ (by decide)) (.inl rfl) (by assumption)) hn)
   ·(
     (refine h_ rfl rfl (λh=>?_) (λh=>?_)<;>rw [e_]at h)
     ·(refine a_ (h2 _ _ hn (by decide)) rfl (t_ hA) ⟨?_,trivial⟩;intro ws hw;obtain ⟨⟨op,kd,nm,fd,ad,nn,vk,vi,vf,args⟩,n,rfl,hx,hn⟩:=hw;replace hx:=b_ (e:=5) (by decide) hx);(refine a_ (h2 _ _ hn (by decide)) rfl (t_ hA) ⟨?_,trivial⟩;intro ws hw;obtain ⟨⟨op,kd,nm,fd,ad,nn,vk,vi,vf,args⟩,n,rfl,hx,hn⟩:=hw;replace hx:=b_ (e:=5) (by decide) hx);exact v_ (x:=.mk _ (.mk _ _ _ _ _ _ _ _ _ []) (.mk _ _ _ _ _ _ _ _ _ []) [] [] _ _ _ [.mk ..,.mk ..]) rfl (k_ (by decide) (by simp) (bs_ (by assumption) (by assumption))) hn
     (refine h_ rfl rfl (λh=>?_) (λh=>?_)<;>rw [e_]at h)
     ·(refine a_ (h2 _ _ hn (by decide)) rfl (t_ hA) ⟨?_,trivial⟩;intro ws hw;obtain ⟨⟨op,kd,nm,fd,ad,nn,vk,vi,vf,args⟩,n,rfl,hx,hn⟩:=hw;replace hx:=b_ (e:=5) (by decide) hx);(refine a_ (h31 _ _ hn (by decide)) rfl (t_ hA) ⟨?_,trivial⟩;intro ws hw;obtain ⟨⟨op,kd,nm,fd,ad,nn,vk,vi,vf,args⟩,n,rfl,hx,hn⟩:=hw;replace hx:=b_ (e:=5) (by decide) hx);exact v_ (x:=.mk _ (.mk _ _ _ _ _ _ _ _ _ []) (.mk _ _ _ _ _ _ _ _ _ []) [] [] _ _ _ [.mk ..,.mk ..]) rfl (k_ (by decide) (by simp) (bs_ (by assumption) (by assumption))) hn
     (refine h_ rfl rfl (λh=>?_) (λh=>?_)<;>rw [e_]at h)
     ·(refine a_ (h2 _ _ hn (by decide)) rfl (t_ hA) ⟨?_,trivial⟩;intro ws hw;obtain ⟨⟨op,kd,nm,fd,ad,nn,vk,vi,vf,args⟩,n,rfl,hx,hn⟩:=hw;replace hx:=b_ (e:=5) (by decide) hx);exact v_ (x:=.mk _ (.mk _ _ _ _ _ _ _ _ _ []) (.mk _ _ _ _ _ _ _ _ _ []) [] [] _ _ _ [.mk ..]) rfl (k_ (by decide) (by simp) (qd_ (by assumption))) hn
     (refine h_ rfl rfl (λh=>?_) (λh=>?_)<;>rw [e_]at h)
     ·(refine a_ (h2 _ _ hn (by first|decide|(simp only [decide_eq_true_eq,decide_eq_false_iff_not]at *; omega))) rfl (t_ hA) ⟨?_,trivial⟩;intro ws hw;obtain ⟨⟨op,kd,nm,fd,ad,nn,vk,vi,vf,args⟩,n,rfl,hx,hn⟩:=hw);rename WX _ _=>hx0;(refine a_ (h3 _ _ hn (by decide)) rfl (t_ hA) ⟨?_,trivial⟩;intro ws hw;obtain ⟨⟨op,kd,nm,fd,ad,nn,vk,vi,vf,args⟩,n,rfl,hx,hn⟩:=hw;replace hx:=b_ (e:=5) (by decide) hx)
      exact v_ (x:=.mk _ (.mk _ _ _ _ _ _ _ _ _ [.mk ..]) (.mk ..) [] [] _ _ _ []) rfl (y_ (b_ (d:=4) (by decide) (Y_ (by decide) hx0)) (.inr rfl) (by assumption)) hn
     ·(refine a_ (u_ hp hn (by first|decide|omega) (by first|decide|omega)) rfl (J_ hA) ⟨?_,trivial⟩;intro ws hw;rcases hw with ⟨v,n,rfl,hv,hn⟩)
      have e6:v=0\/v=1\/v=2\/v=3\/v=4\/v=5:=(by omega);rcases e6 with rfl|rfl|rfl|rfl|rfl|rfl;all_goals
       refine uR_ rfl rfl (uR_ rfl rfl (uR_ rfl rfl (t8_ (p51 _) rfl rfl ?_)))
       (refine a_ (h4 _ _ hn (by decide)) rfl (t_ hA) ⟨?_,trivial⟩;intro ws hw;obtain ⟨⟨op,kd,nm,fd,ad,nn,vk,vi,vf,args⟩,n,rfl,hx,hn⟩:=hw;replace hx:=b_ (e:=5) (by decide) hx)
       exact v_ (x:=.mk _ (.mk _ _ _ _ _ _ _ _ _ []) (.mk ..) [] [] _ _ _ []) rfl (y_ (E_ (by decide)) (.inl rfl) (by assumption)) hn))
theorem p13 {l:List UInt8} {a:AV} (hp:Pk l a) (d:Nat) (hd2:d<=100) (hS:PS l a d):PB l a d:=by
 intro n m hn hm1 hm2;have hA:=hp.1.ok n5_;refine uD_ (c:=c13) (n:=300) (t:=t13) mo ov rfl (λY _=>uZ_ _) (by kernel_rfl) λY hf hg=>?_;unfold t13
 (refine a_ (u_ hp hn (by first|decide|omega) (by first|decide|omega)) rfl (J_ hA) ⟨?_,trivial⟩;intro ws hw;rcases hw with ⟨v,n,rfl,hv,hn⟩)
 refine uR_ (o_ (by omega) (by omega)) rfl ?_;refine ua_ (ι:=Nat×List GS×Nat) (λx=>[.int .i64 (x.1:Int),r_ x.2.1,.int .i64 (x.2.2:Int)]) (λx=>x.1+x.2.1.length<=m/\(∀s∈x.2.1,WS (d+1) s)/\x.2.2<=l.length) (λx=>x.1) (v+1,[],n)
  ⟨by simp;omega,λs hs=>(List.not_mem_nil hs).elim,hn⟩ rfl (λx _=>by simp only [okL,okC,okB]) (λx y _ _ h=>by simp at h;omega) (λx hx=>?_)
 obtain ⟨i,ss,n⟩:=x;obtain ⟨h1,h2,hn⟩:=hx;simp only at h1 hn h2⊢
 (refine h_ rfl rfl (λh=>?_) (λh=>?_)<;>rw [e_]at h)
 refine a_ (hS _ hn) rfl (J_ hA) ⟨?_,trivial⟩;rintro ws ⟨⟨op,⟨op1,kd1,nm1,fd1,ad1,nn1,vk1,vi1,vf1,args1⟩,⟨op2,kd2,nm2,fd2,ad2,nn2,vk2,vi2,vf2,args2⟩,thn,els,nm,kd,ad,args⟩,n,rfl,hx,hn⟩;refine uR_ (q_ ss (.mk op (.mk op1 kd1 nm1 fd1 ad1 nn1 vk1 vi1 vf1 args1) (.mk op2 kd2 nm2 fd2 ad2 nn2 vk2 vi2 vf2 args2) thn els nm kd ad args) (by omega)) (okB _) ?_;obtain ⟨i,rfl⟩:∃e,i=e+1:=⟨i-1,by simp at h;omega⟩;refine uR_ (n_ (z:=(i:Int)) (by omega) (by omega) (by omega)) rfl ?_;refine tZ_ rfl ⟨(i,ss++[_],n),⟨?_,?_,hn⟩,rfl,by simp⟩;simp;omega;intro s hs;rcases List.mem_append.1 hs with hs|hs;exact h2 s hs;cases List.mem_singleton.1 hs;exact hx;exact VOK_fin (by show okL [r_ ss,.int .i64 (n:Int)]=true;simp only [okL,okC,okB]) ⟨ss,n,rfl,⟨by omega,h2⟩,hn⟩
theorem pS {l:List UInt8} {a:AV} (hp:Pk l a):∀d:Nat,d<=100->PS l a d/\PB l a d
 |0,h=>by have h1:=p29 hp 0 h (λe h=>by omega);exact ⟨h1,p13 hp 0 h h1⟩
 |d+1,h=>by have ih:=pS hp d (by omega);have h1:=p29 hp (d+1) h (λe h=>by cases h;exact ih.2);exact ⟨h1,p13 hp (d+1) h h1⟩
end Go.Proofs.YtbjjpimpabbpdaaGreatDoor.vars
set_option maxRecDepth 100000
set_option linter.unusedVariables false
set_option linter.unusedSimpArgs false
namespace Go.Proofs.YtbjjpimpabbpdaaGreatDoor.vars
open Go Go.Sx
def c6:VC:=⟨⟨[],[]⟩,[],[],1,true,[(13,ft13)]⟩
def t6:VT:=Cf 13 ft13 [64,65,J 5,J 2] 66 2<|Dn [70,71]
def c5:VC:=⟨⟨[],[]⟩,[],[],0,true,[]⟩
def t5:VT:=Dn []
def R19 (l:List UInt8):Nat->List AV->Prop:=λ_ ws=>∃(b:List GS) (n:Nat),ws=[r_ b,.int .i64 (n:Int)]/\b.length<=5/\∀s∈b,WS 3 s
theorem p6 {l:List UInt8} {a:AV} (hp:Pk l a):CF Tryz.prog 6 ft6 [a,.int .i64 0] (R19 l):=by have hA:=hp.1.ok n5_;refine uD_ (c:=c6) (n:=300) (t:=t6) mo ov rfl (λY _=>uZ_ _) (by kernel_rfl) λY hf hg=>?_;unfold t6;refine a_ ((pS hp 2 (by decide)).2 0 5 (Nat.zero_le _) (by decide) (by decide)) rfl (okR hA) ⟨?_,trivial⟩;rintro ws ⟨b,n,rfl,⟨h1,h2⟩,h3⟩;exact VOK_fin (by show okL [r_ b,.int .i64 (n:Int)]=true;simp only [okL,okC,okB]) ⟨b,n,rfl,h1,h2⟩
theorem p5 (a:AV) (h:okC a=true):CF Tryz.prog 5 ft5 [a] (λ_ ws=>ws=[]):=by refine uD_ (c:=c5) (n:=300) (t:=t5) mo ov rfl (λY _=>uZ_ _) (by kernel_rfl) λY hf hg=>?_;unfold t5;exact VOK_fin rfl rfl
end Go.Proofs.YtbjjpimpabbpdaaGreatDoor.vars
set_option linter.unusedVariables false
set_option linter.unusedSimpArgs false
namespace Go.Sx
section
variable {P:Program} {t:TypeId} {ti:TypeInfo} {α:Type} {enc:α->List AV} {w:Nat}
theorem I_:∀(a xs b c:List AV),b.length=xs.length->cK_ a.length xs (a++(b++c))=some (a++(xs++c))
 |[],[],[],c,_=>by cases c<;>rfl
 |[],x::xs,y::b,c,h=>by have ih:=I_ [] xs b c (by simpa using h);simp only [List.nil_append,List.length_nil,List.cons_append]at ih⊢;simp only [cK_,ih]
 |[],x::xs,[],c,h=>by simp at h
 |[],[],y::b,c,h=>by simp at h
 |x::a,xs,b,c,h=>by simp only [List.cons_append,List.length_cons,cK_,I_ a xs b c h]
theorem uo_ (hw:∀a,(enc a).length=w) (l:List α) {i:Nat} (hi:i<l.length):∃a b,cd_ enc l=a++(enc l[i]++b)/\a.length=i*w/\∀x,cd_ enc (l.set i x)=a++(enc x++b):=by
 refine ⟨cd_ enc (l.take i),cd_ enc (l.drop (i+1)),?_,?_,λx=>?_⟩;have h1:l=l.take i++l[i]::l.drop (i+1):=(by rw [List.getElem_cons_drop,List.take_append_drop]);have h2:=congrArg (cd_ enc) h1;rw [hl_]at h2;exact h2
 .rw [eu_ hw,List.length_take];congr 1;omega
 rw [List.set_eq_take_append_cons_drop,if_pos hi,hl_];rfl
theorem t3_ (hw:∀a,(enc a).length=w) {l:List α} {i:Nat} (hi:i<l.length) {off:Nat} {v:AV} {xs p q r:List AV} {y:α} (hc:v.cells=xs) (ho:v=.agg xs\/(∃k n,v=.int k n)) (hinf:P.info? t=some ti) (hs:ti.size=xs.length) (h1:a7_ xs=true)
  (he:enc l[i]=p++(q++r)) (hp:p.length=off) (hq:q.length=xs.length) (hy:enc y=p++(xs++r)) (k:IntKind):(XOp.stx t w off).run P [dp_ enc w l,.int k (i:Int),v]=some (dp_ enc w (l.set i y)):=by
 obtain ⟨a,b,e1,e2,e3⟩:=uo_ hw l hi;obtain ⟨x0,l',rfl⟩:∃x l',l=x::l':=by cases l with|nil=>simp at hi|cons x l'=>exact ⟨x,l',rfl⟩
 have cy_:∃z l'',(x0::l').set i y=z::l''/\l''.length=l'.length:=by
  cases i with
  |zero=>exact ⟨y,l',rfl,rfl⟩
  |succ i=>exact ⟨x0,l'.set i y,rfl,by simp⟩
 obtain ⟨z,l'',e4,e5⟩:=cy_;have hst:cf_ P (p1_ (cd_ enc (x0::l'))) t (.ptr 0 (i*w+off)) v=some (.tup [],(p1_ (cd_ enc (x0::l'))).set 0 (.cells (cd_ enc ((x0::l').set i y)))):=by have hg:(p1_ (cd_ enc (x0::l'))).get 0=some (.cells (cd_ enc (x0::l'))):=rfl;have hsa:cK_ (i*w+off) xs (cd_ enc (x0::l'))=some (cd_ enc ((x0::l').set i y)):=(by have:=I_ (a++p) xs q (r++b) hq;rw [List.length_append,e2,hp]at this;rw [e1,he,e3,hy];simpa [List.append_assoc]using this);have hb:Nat.beq xs.length ti.size=true:=(by rw [hs];exact Nat.beq_refl _);rcases ho with rfl|⟨k',n,rfl⟩;simp only [cf_,hinf];have hc':(AV.agg xs).cells=xs:=hc;simp only [hc',hb,h1,hg,hsa];simp only [cf_,hinf];simp only [hc,hb,h1,hg,hsa]
 show (match cf_ P (p1_ (cd_ enc (x0::l'))) t (.ptr 0 (Nat.add (Nat.mul i w) off)) v with
  |some r=>match r.2.get 0 with
   |some (.cells cs')=>some (AV.vsl (l'.length+1) w cs')
   |_=>none
  |none=>none)=_
 have e6:Nat.add (Nat.mul i w) off=i*w+off:=rfl;rw [e6,hst];have hg2:∀c:List AV,((p1_ (cd_ enc (x0::l'))).set 0 (.cells c)).get 0=some (.cells c):=λc=>rfl;simp only [hg2];rw [e4];show _=some (AV.vsl (l''.length+1) w (cd_ enc (z::l'')));rw [e5]
end
theorem U_:∀{l:List AV},okL l=true->a7_ l=true
 |[],_=>rfl
 |a::r,h=>by rw [aN_]at h;obtain ⟨h1,h2⟩:=aa_ h;have:a.one=true:=(by cases a<;>first|rfl|(simp [okC]at h1));simp only [a7_,this,U_ h2]
end Go.Sx
set_option maxRecDepth 100000
set_option linter.unusedVariables false
set_option linter.unusedSimpArgs false
namespace Go.Proofs.YtbjjpimpabbpdaaGreatDoor.vars
open Go Go.Sx
def c59:VC:=⟨⟨[],[]⟩,[],[],1,true,[]⟩
def t59:VT:=
 (K Qc [.str [97],65] 66
 (.ite 66
 (K Qd [64,J 0] 67
 (K Q7 [67] 68
 (.done (.tup [J 0,.str [97],J 1,J 2,J 0,J 2,J 0,.flt .f64 0,J 0,J 0,.flt .f64 0,68]))))
 (K Qc [.str [98],65] 67
 (.ite 67
 (K Qd [64,J 1] 68
 (K Q7 [68] 69
 (.done (.tup [J 0,.str [98],J 1,J 1,J 0,J 1,J 0,.flt .f64 0,J 0,J 0,.flt .f64 0,69]))))
 (K Qc [.str [111],65] 68
 (.ite 68
 (K Qd [64,J 2] 69
 (K Q7 [69] 70
 (.done (.tup [J 0,.str [111],J 2,J 2,J 0,J 2,J 0,.flt .f64 0,J 2,J 7,.flt .f64 0,70]))))
 (K Qc [.str [113],65] 69
 (.ite 69
 (K Qd [64,J 3] 70
 (K Q7 [70] 71
 (.done (.tup [J 0,.str [113],J 2,J 1,J 0,J 1,J 0,.flt .f64 0,J 1,J 1,.flt .f64 0,71]))))
 (K Qc [.str [120],65] 70
 (.ite 70
 (K Qd [64,J 4] 71
 (K Q7 [71] 72
 (.done (.tup [J 0,.str [120],J 3,J 2,J 0,J 2,J 5,.flt .f64 0,J 0,J 0,.flt .f64 0,72]))))
 (K Qc [.str [121],65] 71
 (.ite 71
 (K Qd [64,J 5] 72
 (K Q7 [72] 73
 (.done (.tup [J 0,.str [121],J 3,J 3,J 0,J 3,J 0,.flt .f64 0,J 0,J 0,.flt .f64 0,73]))))
 (K Qc [.str [122],65] 72
 (.ite 72
 (K Qd [64,J 6] 73
 (K Q7 [73] 74
 (.done (.tup [J 0,.str [122],J 3,J 5,J 0,J 5,J 0,.flt .f64 0,J 0,J 0,.flt .f64 0,74]))))
 (K Qc [.str [119],65] 73
 (.ite 73
 (K Qd [64,J 7] 74
 (K Q7 [74] 75
 (.done (.tup [J 0,.str [119],J 3,J 4,J 0,J 4,J 0,.flt .f64 0,J 0,J 0,.flt .f64 0,75]))))
 (K Qc [.str [107],65] 74
 (.ite 74
 (K Qd [64,J 8] 75
 (K Q7 [75] 76
 (.done (.tup [J 0,.str [107],J 3,J 2,J 4,J 2,J 0,.flt .f64 0,J 0,J 0,.flt .f64 0,76]))))
 (K Qc [.str [116,109],65] 75
 (.ite 75
 (K Qd [64,J 9] 76
 (K Q7 [76] 77
 (.done (.tup [J 0,.str [116,109],J 3,J 6,J 0,J 0,J 0,.flt .f64 0,J 0,J 0,.flt .f64 0,77]))))
 (K Qc [.str [99],65] 76
 (.ite 76
 (K Qd [64,J 10] 77
 (K Q7 [77] 78
 (.done (.tup [J 0,.str [99],J 3,J 9,J 0,J 0,J 0,.flt .f64 0,J 0,J 0,.flt .f64 0,78]))))
 (K Qc [.str [101],65] 77
 (.ite 77
 (K Qd [64,J 11] 78
 (K Q7 [78] 79
 (.done (.tup [J 0,.str [101],J 3,J 11,J 0,J 0,J 0,.flt .f64 0,J 0,J 0,.flt .f64 0,79]))))
 (.done (.tup [J 1,J 3]))))))))))))))))))))))))))
def c60:VC:=⟨⟨[],[]⟩,[],[],0,true,[]⟩
def t60:VT:=
 (K Q0 [64,J 1] 75
 (.ite 75
 (K Q0 [65,J 3] 76
 (.ite 76
 (K Q0 [74,J 2] 77
 (.ite 77
 (K (.conv 2 124) [71] 78
 (K (.conv 124 2) [78] 79
 (.done (.agg [64,74,66,67,68,69,74,79,.flt .f64 0,73]))))
 (.done (.agg [64,65,66,67,68,69,70,71,72,73]))))
 (.done (.agg [64,65,66,67,68,69,70,71,72,73]))))
 (.done (.agg [64,65,66,67,68,69,70,71,72,73]))))
def c64:VC:=⟨⟨[],[]⟩,[(90,[(some 4),none])],[],1,true,[(59,S_)]⟩
def t64:VT:=
 (.callF 59 S_ [64,67] 75
 (.cons 11
 (K Qr [68,.str []] 88
 (.ite 88
 (K Qa [79,J 6] 89
 (K Q4 [89] 90
 (.ite 90
 (.done (.tup [J 1,J 4]))
 (K (.bin .add 9 false true) [77,.str [46]] 91
 (K (.bin .add 9 false false) [91,68] 92
 (.call 90 [VARS,92] 93 [(some 4),none]
 (K Q4 [97] 98
 (.ite 98
 (.done (.tup [J 1,J 3]))
 (.done (.tup [J 0,65,95,67,68,94,70,71,72,73,74]))))))))))
 (K Qa [79,J 6] 89
 (.ite 89
 (.done (.tup [J 1,J 4]))
 (K Qh [80,J 0] 90
 (.ite 90
 (.done (.tup [J 1,J 4]))
 (.done (.tup [J 0,65,79,67,68,87,70,71,72,73,74]))))))))
 (.cons 1
 (.done (.tup [J 1,77]))
 .nil)))
theorem u2_:kD_ Tryz.prog 90 [VARS,.str [116,109,46,113]] (.tup [.agg [.str [116,109,46,113],.int .i64 12,.int .i64 1,.int .i64 3],.bool true]):=uG_ mo ov (n:=3000) (by kernel_rfl)
theorem u4_:kD_ Tryz.prog 90 [VARS,.str [99,46,99,118]] (.tup [.agg [.str [99,46,99,118],.int .i64 17,.int .i64 2,.int .i64 3],.bool true]):=uG_ mo ov (n:=3000) (by kernel_rfl)
theorem u5_:kD_ Tryz.prog 90 [VARS,.str [116,109,46,101,116]] (.tup [.agg [.str [116,109,46,101,116],.int .i64 13,.int .i64 4,.int .i64 3],.bool true]):=uG_ mo ov (n:=3000) (by kernel_rfl)
section
variable {P:Program} {Q:AV->Prop} {L:List (Nat->List AV->Prop)} {Y:Sy} {t:TypeId} {cx cy:Bool} {args:List AV} {n:Nat} {A B:VT} {k:IntKind} {a b:Int}
def Cmp:BinOp->Int->Int->Prop
 | .eql,a,b=>a=b
 | .neq,a,b=>¬a=b
 | .lss,a,b=>a<b
 | .gtr,a,b=>b<a
 | .leq,a,b=>a<=b
 | .geq,a,b=>b<=a
 |_,_,_=>False
open Classical in
theorem c_ {op:BinOp} (h0:ab_ Y.v args=[.int k a,.int k b]) (ho:(match op with| .eql=>true| .neq=>true| .lss=>true| .gtr=>true| .leq=>true| .geq=>true|_=>false)=true)
  (h1:Cmp op a b->VOK P Q L (Y.put n (.bool (decide (Cmp op a b)))) A) (h2:¬Cmp op a b->VOK P Q L (Y.put n (.bool (decide (Cmp op a b)))) B):VOK P Q L Y (.lt (.bin op t cx cy) args n none (.ite n A B)):=by
 have hr:(XOp.bin op t cx cy).run P [.int k a,.int k b]=some (.bool (decide (Cmp op a b))):=by
  cases op<;>simp only at ho<;>first|(cases ho;done)|skip
  .rw [run_eql];refine congrArg (λx=>some (AV.bool x)) ?_;by_cases h:a=b<;>simp [Cmp,h]
  .rw [run_neq];refine congrArg (λx=>some (AV.bool x)) ?_;by_cases h:a=b<;>simp [Cmp,h]
  .rw [run_lss];refine congrArg (λx=>some (AV.bool x)) ?_;by_cases h:a<b<;>simp [Cmp,h]
  .rw [run_leq];refine congrArg (λx=>some (AV.bool x)) ?_;by_cases h:a<=b<;>simp [Cmp,h]
  .rw [run_gtr];refine congrArg (λx=>some (AV.bool x)) ?_;by_cases h:b<a<;>simp [Cmp,h]
  .rw [run_geq];refine congrArg (λx=>some (AV.bool x)) ?_;by_cases h:b<=a<;>simp [Cmp,h]
 exact uR_ (by rw [h0];exact hr) rfl (uB_ (t:=decide (Cmp op a b)) (by rw [vc_,if_pos rfl]) (λh=>h1 (of_decide_eq_true h)) (λh=>h2 (of_decide_eq_false h)))
end
theorem nc:(∀a b,Cmp .eql a b=(a=b))/\(∀a b,Cmp .neq a b=¬a=b)/\(∀a b,Cmp .lss a b=(a<b))/\(∀a b,Cmp .gtr a b=(b<a))/\(∀a b,Cmp .leq a b=(a<=b))/\(∀a b,Cmp .geq a b=(b<=a))/\(∀p:Prop,(¬¬p)=p)/\(∀a b:Int,(¬a<b)=(b<=a))/\(∀a b:Int,(¬a<=b)=(b<a))/\(¬True)=False:=
 ⟨λ_ _=>rfl,λ_ _=>rfl,λ_ _=>rfl,λ_ _=>rfl,λ_ _=>rfl,λ_ _=>rfl,λp=>propext ⟨Classical.not_not.1,λh k=>k h⟩,λ_ _=>propext Int.not_lt,λ_ _=>propext Int.not_le,propext ⟨λh=>h trivial,False.elim⟩⟩
def ADDRS:AV:=.vsl 12 1 [.int .i64 0,.int .i64 1,.int .i64 2,.int .i64 3,.int .i64 4,.int .i64 5,.int .i64 6,.int .i64 7,.int .i64 8,.int .i64 12,.int .i64 16,.int .i64 19]
structure TV where
 nm:List UInt8
 r:Int
 k:Int
 z:Int
 fk:Int
 fi:Int
 sk:Int
 si:Int
 ad:Int
def vp_ (t:TV):List AV:=[.str t.nm,.int .i64 t.r,.int .i64 t.k,.int .i64 t.z,.int .i64 t.fk,.int .i64 t.fi,.flt .f64 0,.int .i64 t.sk,.int .i64 t.si,.flt .f64 0]
def va:TV:=⟨[97],1,2,0,2,0,0,0,0⟩
def vb:TV:=⟨[98],1,1,0,1,0,0,0,1⟩
def vo:TV:=⟨[111],2,2,0,2,0,2,7,2⟩
def vq:TV:=⟨[113],2,1,0,1,0,1,1,3⟩
def vx:TV:=⟨[120],3,2,0,2,5,0,0,4⟩
def vy:TV:=⟨[121],3,3,0,3,0,0,0,5⟩
def vz:TV:=⟨[122],3,5,0,5,0,0,0,6⟩
def vw:TV:=⟨[119],3,4,0,4,0,0,0,7⟩
def vk:TV:=⟨[107],3,2,4,2,0,0,0,8⟩
def vtm:TV:=⟨[116,109],3,6,0,0,0,0,0,12⟩
def vc:TV:=⟨[99],3,9,0,0,0,0,0,16⟩
def ve:TV:=⟨[101],3,11,0,0,0,0,0,19⟩
def m_:List TV:=[va,vb,vo,vq,vx,vy,vz,vw,vk,vtm,vc,ve]
def KE:Nat->GX->Prop
 |0,_=>False
 |d+1,.mk op kd _ _ _ _ vk _ _ args=>1<=kd/\kd<=5/\(op=1->vk=kd)/\(∀a b,args=[a,b]->a.kd=b.kd)/\args.length<=2/\∀a∈args,KE d a
theorem X_:∀{d e:Nat} {x:GX},d<=e->KE d x->KE e x
 |0,_,_,_,h=>h.elim
 |d+1,0,_,h,_=>by omega
 |d+1,e+1,.mk ..,h,⟨h1,h2,h3,h4,h6,h5⟩=>⟨h1,h2,h3,h4,h6,λa ha=>X_ (by omega) (h5 a ha)⟩
theorem uU_:∀{d:Nat} {x:GX},KE d x->1<=x.kd/\x.kd<=5
 |0,_,h=>h.elim
 |d+1,.mk ..,h=>⟨h.1,h.2.1⟩
def RO (p:GX->Prop):Nat->List AV->Prop
 |0,ws=>∃y,ws=d_ y/\p y
 |_+1,ws=>∃e:Int,e≠0/\ws=[.int .i64 e]
def RF (t:TV):Nat->List AV->Prop
 |0,ws=>ws=vp_ t++[.int .i64 t.ad]
 |_+1,_=>False
section
variable {Y:Sy} {L:List (Nat->List AV->Prop)} {hv:List AV} {p:GX->Prop} {y:GX} {e:Int}
theorem s_ (h:ab_ Y.v hv=d_ y) (hp:p y):VOK Tryz.prog (QF (RO p)) L Y (.done (.tup (.int .i64 0::hv))):=VOK_fin (j:=0) (by rw [h];exact G_ y) ⟨y,h,hp⟩
theorem x_ (h:ab_ Y.v hv=[.int .i64 e]) (he:e≠0):VOK Tryz.prog (QF (RO p)) L Y (.done (.tup (.int .i64 1::hv))):=VOK_fin (j:=1) (by rw [h];rfl) ⟨e,he,h⟩
end
theorem O_ (x:GX):okL (ADDRS::d_ x)=true:=by rw [aN_];exact G_ x
theorem p59 (t:TV) (ht:t∈m_):CF Tryz.prog 59 S_ [ADDRS,.str t.nm] (RF t):=by
 refine uD_ (c:=c59) (n:=300) (t:=t59) mo ov rfl (λY _=>uZ_ _) (by kernel_rfl) λY hf hg=>?_;unfold t59;simp only [m_,List.mem_cons,List.not_mem_nil,or_false]at ht;rcases ht with rfl|rfl|rfl|rfl|rfl|rfl|rfl|rfl|rfl|rfl|rfl|rfl;all_goals repeat (refine uR_ rfl rfl (uB_ rfl (λh=>absurd h (by decide)) (λ_=>?_)))
 all_goals exact uR_ rfl rfl (uB_ rfl (λ_=>uR_ rfl rfl (uR_ rfl rfl (VOK_fin (j:=0) rfl rfl))) (λh=>absurd h (by decide)))
theorem P_ {l:List AV} (h:okL l=true):aV_ (.agg l)=true:=by simp only [aV_];exact b8_ h
theorem p60 {d:Nat} (x:GX) (k:Int) (hx:KE d x):∃y,kD_ Tryz.prog 60 [.agg (d_ x),.int .i64 k] (.agg (d_ y))/\KE d y:=by
 obtain ⟨op,kd,nm,fd,ad,n,vk,vi,vf,args⟩:=x;obtain ⟨d,rfl⟩:∃e,d=e+1:=by cases d with|zero=>exact hx.elim|succ d=>exact ⟨d,rfl⟩
 by_cases hc:op=1/\kd=3/\k=2
 .obtain ⟨rfl,rfl,rfl⟩:=hc;obtain ⟨h1,h2,h3,h4,h5⟩:=hx;refine ⟨.mk 1 2 nm fd ad n 2 (IntKind.i64.wrap (IntKind.i16.wrap vi)) 0 args,?_,by decide,by decide,λ_=>rfl,h4,h5⟩;refine tG_ (sh:=[some 10,none]) (ls:=d_ (.mk 1 3 nm fd ad n vk vi vf args)++[.int .i64 2]) (c:=c60) (n:=300) (t:=t60) mo ov rfl (tX_ _ _) (P_ (G_ _)) (λY _=>uZ_ _) rfl (by kernel_rfl) λY hf hg=>?_;unfold t60
  (refine c_ rfl rfl ?_ ?_<;>intro h<;>simp only [nc]at h<;>try omega);(refine c_ rfl rfl ?_ ?_<;>intro h<;>simp only [nc]at h<;>try omega);(refine c_ rfl rfl ?_ ?_<;>intro h<;>simp only [nc]at h<;>try omega)
  exact uR_ (tf_ Tryz.underlying2 Tryz.underlying124 _) rfl (uR_ (tf_ Tryz.underlying124 Tryz.underlying2 _) rfl (t9_ rfl))
 .refine ⟨_,?_,hx⟩;refine tG_ (sh:=[some 10,none]) (ls:=d_ (.mk op kd nm fd ad n vk vi vf args)++[.int .i64 k]) (c:=c60) (n:=300) (t:=t60) mo ov rfl (tX_ _ _) (P_ (G_ _)) (λY _=>uZ_ _) rfl (by kernel_rfl) λY hf hg=>?_;unfold t60
  (refine c_ rfl rfl ?_ ?_<;>intro h<;>simp only [nc]at h<;>try omega)
  ·(refine c_ rfl rfl ?_ ?_<;>intro h<;>simp only [nc]at h<;>try omega)
   ·(refine c_ rfl rfl ?_ ?_<;>intro h<;>simp only [nc]at h<;>try omega)
    exact t9_ rfl
   exact t9_ rfl
  exact t9_ rfl
theorem p64 (op kd:Int) (nm fd:List UInt8) (ad n vk vi:Int) (vf:Nat) (args:List GX) (h:(nm,fd)∈N_):CF Tryz.prog 64 uE_ (ADDRS::d_ (.mk op kd nm fd ad n vk vi vf args)) (RO λy=>∃kd' ad',y=.mk op kd' nm fd ad' n vk vi vf args/\1<=kd'/\kd'<=5):=by
 refine uD_ (c:=c64) (n:=300) (t:=t64) mo ov rfl (λY _=>uZ_ _) (by kernel_rfl) λY hf hg=>?_;unfold t64;simp only [N_,List.mem_cons,Prod.mk.injEq,List.not_mem_nil,or_false]at h;rcases h with ⟨rfl,rfl⟩|⟨rfl,rfl⟩|⟨rfl,rfl⟩|⟨rfl,rfl⟩|⟨rfl,rfl⟩|⟨rfl,rfl⟩|⟨rfl,rfl⟩|⟨rfl,rfl⟩|⟨rfl,rfl⟩|⟨rfl,rfl⟩|⟨rfl,rfl⟩
 ·(
   (refine a_ (p59 vb (by simp [m_])) rfl rfl ⟨?_,λws h=>h.elim,trivial⟩;rintro ws rfl)
   refine uR_ rfl rfl (uB_ rfl (λh=>by cases h) (λ_=>uR_ rfl rfl (uB_ rfl (λh=>by cases h) (λ_=>uR_ rfl rfl (uB_ rfl (λh=>by cases h) (λ_=>?_))))));exact s_ (y:=.mk op _ _ _ _ n vk vi vf args) rfl ⟨_,_,rfl,by decide,by decide⟩)
 ·(
   (refine a_ (p59 vq (by simp [m_])) rfl rfl ⟨?_,λws h=>h.elim,trivial⟩;rintro ws rfl)
   refine uR_ rfl rfl (uB_ rfl (λh=>by cases h) (λ_=>uR_ rfl rfl (uB_ rfl (λh=>by cases h) (λ_=>uR_ rfl rfl (uB_ rfl (λh=>by cases h) (λ_=>?_))))));exact s_ (y:=.mk op _ _ _ _ n vk vi vf args) rfl ⟨_,_,rfl,by decide,by decide⟩)
 ·(
   (refine a_ (p59 vtm (by simp [m_])) rfl rfl ⟨?_,λws h=>h.elim,trivial⟩;rintro ws rfl)
   refine uR_ rfl rfl (uB_ rfl (λ_=>uR_ rfl rfl (uR_ rfl rfl (uB_ rfl (λh=>by cases h) (λ_=>uR_ rfl rfl (uR_ rfl rfl (t8_ u2_ rfl rfl (uR_ rfl rfl (uB_ rfl (λh=>by cases h) (λ_=>?_))))))))) (λh=>by cases h));exact s_ (y:=.mk op _ _ _ _ n vk vi vf args) rfl ⟨_,_,rfl,by decide,by decide⟩)
 ·(
   (refine a_ (p59 va (by simp [m_])) rfl rfl ⟨?_,λws h=>h.elim,trivial⟩;rintro ws rfl)
   refine uR_ rfl rfl (uB_ rfl (λh=>by cases h) (λ_=>uR_ rfl rfl (uB_ rfl (λh=>by cases h) (λ_=>uR_ rfl rfl (uB_ rfl (λh=>by cases h) (λ_=>?_))))));exact s_ (y:=.mk op _ _ _ _ n vk vi vf args) rfl ⟨_,_,rfl,by decide,by decide⟩)
 ·(
   (refine a_ (p59 vx (by simp [m_])) rfl rfl ⟨?_,λws h=>h.elim,trivial⟩;rintro ws rfl)
   refine uR_ rfl rfl (uB_ rfl (λh=>by cases h) (λ_=>uR_ rfl rfl (uB_ rfl (λh=>by cases h) (λ_=>uR_ rfl rfl (uB_ rfl (λh=>by cases h) (λ_=>?_))))));exact s_ (y:=.mk op _ _ _ _ n vk vi vf args) rfl ⟨_,_,rfl,by decide,by decide⟩)
 ·(
   (refine a_ (p59 vo (by simp [m_])) rfl rfl ⟨?_,λws h=>h.elim,trivial⟩;rintro ws rfl)
   refine uR_ rfl rfl (uB_ rfl (λh=>by cases h) (λ_=>uR_ rfl rfl (uB_ rfl (λh=>by cases h) (λ_=>uR_ rfl rfl (uB_ rfl (λh=>by cases h) (λ_=>?_))))));exact s_ (y:=.mk op _ _ _ _ n vk vi vf args) rfl ⟨_,_,rfl,by decide,by decide⟩)
 ·(
   (refine a_ (p59 vc (by simp [m_])) rfl rfl ⟨?_,λws h=>h.elim,trivial⟩;rintro ws rfl)
   refine uR_ rfl rfl (uB_ rfl (λ_=>uR_ rfl rfl (uR_ rfl rfl (uB_ rfl (λh=>by cases h) (λ_=>uR_ rfl rfl (uR_ rfl rfl (t8_ u4_ rfl rfl (uR_ rfl rfl (uB_ rfl (λh=>by cases h) (λ_=>?_))))))))) (λh=>by cases h));exact s_ (y:=.mk op _ _ _ _ n vk vi vf args) rfl ⟨_,_,rfl,by decide,by decide⟩)
 ·(
   (refine a_ (p59 vy (by simp [m_])) rfl rfl ⟨?_,λws h=>h.elim,trivial⟩;rintro ws rfl)
   refine uR_ rfl rfl (uB_ rfl (λh=>by cases h) (λ_=>uR_ rfl rfl (uB_ rfl (λh=>by cases h) (λ_=>uR_ rfl rfl (uB_ rfl (λh=>by cases h) (λ_=>?_))))));exact s_ (y:=.mk op _ _ _ _ n vk vi vf args) rfl ⟨_,_,rfl,by decide,by decide⟩)
 ·(
   (refine a_ (p59 vtm (by simp [m_])) rfl rfl ⟨?_,λws h=>h.elim,trivial⟩;rintro ws rfl)
   refine uR_ rfl rfl (uB_ rfl (λ_=>uR_ rfl rfl (uR_ rfl rfl (uB_ rfl (λh=>by cases h) (λ_=>uR_ rfl rfl (uR_ rfl rfl (t8_ u5_ rfl rfl (uR_ rfl rfl (uB_ rfl (λh=>by cases h) (λ_=>?_))))))))) (λh=>by cases h));exact s_ (y:=.mk op _ _ _ _ n vk vi vf args) rfl ⟨_,_,rfl,by decide,by decide⟩)
 ·(
   (refine a_ (p59 vw (by simp [m_])) rfl rfl ⟨?_,λws h=>h.elim,trivial⟩;rintro ws rfl)
   refine uR_ rfl rfl (uB_ rfl (λh=>by cases h) (λ_=>uR_ rfl rfl (uB_ rfl (λh=>by cases h) (λ_=>uR_ rfl rfl (uB_ rfl (λh=>by cases h) (λ_=>?_))))));exact s_ (y:=.mk op _ _ _ _ n vk vi vf args) rfl ⟨_,_,rfl,by decide,by decide⟩)
 ·(
   (refine a_ (p59 vz (by simp [m_])) rfl rfl ⟨?_,λws h=>h.elim,trivial⟩;rintro ws rfl)
   refine uR_ rfl rfl (uB_ rfl (λh=>by cases h) (λ_=>uR_ rfl rfl (uB_ rfl (λh=>by cases h) (λ_=>uR_ rfl rfl (uB_ rfl (λh=>by cases h) (λ_=>?_))))));exact s_ (y:=.mk op _ _ _ _ n vk vi vf args) rfl ⟨_,_,rfl,by decide,by decide⟩)
end Go.Proofs.YtbjjpimpabbpdaaGreatDoor.vars
set_option maxRecDepth 100000
set_option linter.unusedVariables false
set_option linter.unusedSimpArgs false
namespace Go.Proofs.YtbjjpimpabbpdaaGreatDoor.vars
open Go Go.Sx
def c62:VC:=⟨⟨[],[]⟩,[],[(0,[⟨[(9,.slx 0 0 0),(0,.ptr 0 0),(4,.slx 1 10 1),(7,65),(8,66)],[(0,[VARS,64])],2,2,[⟨1,10,1,4,none⟩],[],[]⟩])],1,true,[(35,Q_)]⟩
def t62:VT:=
 (K Q5 [65] 66
 (.loop 67 0 [J 0,.nsl]
 (.cons 2
 (K Qm [67,66] 69
 (.ite 69
 (K Qf [65,67] 70
 (.lt Qi [70] 71 (some 10)
 (.callF 35 Q_ [64,71,72,73,74,75,76,77,78,79,80] 81
 (.cons 10
 (K (.app 10 112) [68,.agg [92,93,94,95,96,97,98,99,100,101]] 102
 (K Q9 [67,J 1] 103
 (.again 0 0 [103,102])))
 (.cons 1
 (.done (.tup [J 1,92]))
 .nil)))))
 (.done (.tup [J 0,68]))))
 .nil)))
def c91:VC:=⟨⟨[],[]⟩,[],[(0,[⟨[(8,.slx 0 0 0),(0,64),(1,.fn 86 []),(7,65)],[],0,1,[],[],[]⟩])],0,true,[]⟩
def t91:VT:=
 (K Q5 [64] 65
 (.loop 66 0 [J 0]
 (.cons 1
 (K Qm [66,65] 67
 (.ite 67
 (K Qf [64,66] 68
 (.lt Qi [68] 69 (some 10)
 (K Q6 [70,J 1] 79
 (.ite 79
 (.done (66))
 (K Q9 [66,J 1] 80
 (.again 0 0 [80]))))))
 (.done (.int .i64 (-1)))))
 .nil)))
def c85:VC:=⟨⟨[],[]⟩,[(91,[none])],[],0,true,[]⟩
def t85:VT:=
 (.call 91 [64,.fn 86 []] 65 [none]
 (K Qa [65,J 0] 66
 (.done (66))))
def c65:VC:=⟨⟨[],[]⟩,[],[],1,true,[(59,S_),(62,ft62)]⟩
def t65:VT:=
 (.callF 59 S_ [64,67] 75
 (.cons 11
 (K Q0 [80,J 0] 88
 (.ite 88
 (.done (.tup [J 1,J 4]))
 (K Q5 [74] 89
 (K Q6 [89,J 1] 90
 (.ite 90
 (.done (.tup [J 1,J 4]))
 (.callF 62 ft62 [64,74] 91
 (.cons 1
 (K Q1 [93,J 0] 94
 (K Q8 [93,94] 95
 (K Q0 [95,J 2] 96
 (.ite 96
 (.done (.tup [J 0,65,79,67,68,87,80,71,72,73,93]))
 (K Q0 [95,J 3] 97
 (K Q4 [97] 98
 (.ite 98
 (.done (.tup [J 1,J 4]))
 (.done (.tup [J 0,65,79,67,68,87,80,71,72,73,93])))))))))
 (.cons 1
 (.done (.tup [J 1,93]))
 .nil))))))))
 (.cons 1
 (.done (.tup [J 1,77]))
 .nil)))
def c66:VC:=⟨⟨[],[]⟩,[(85,[none])],[(10003,[⟨[],[],0,0,[],[],[(4,9)]⟩])],1,true,[(62,ft62)]⟩
def t66:VT:=
 (K Q5 [74] 76
 (K Q2 [76,75] 77
 (.ite 77
 (.done (.tup [J 1,J 4]))
 (.callF 62 ft62 [64,74] 78
 (.cons 1
 (.call 85 [80,.fn 86 []] 81 [none]
 (.ite 81
 (.done (.tup [J 1,J 4]))
 (.done (.tup [J 0,65,J 1,67,68,69,70,71,72,73,80]))))
 (.cons 1
 (.done (.tup [J 1,80]))
 .nil))))))
def c67:VC:=⟨⟨[],[]⟩,[],[],1,true,[(62,ft62)]⟩
def t67:VT:=
 (K Q5 [74] 75
 (K Q6 [75,J 1] 76
 (.ite 76
 (.done (.tup [J 1,J 4]))
 (.callF 62 ft62 [64,74] 77
 (.cons 1
 (K Q1 [79,J 0] 80
 (K Q8 [79,80] 81
 (K Q0 [65,J 16] 82
 (.ite 82
 (K Qa [81,J 2] 83
 (.ite 83
 (K Qg [81,J 5] 84
 (K Q4 [84] 85
 (.ite 85
 (.done (.tup [J 1,J 4]))
 (K Qa [81,J 2] 86
 (.ite 86
 (K Qg [81,J 5] 87
 (K Q4 [87] 88
 (.ite 88
 (.done (.tup [J 1,J 4]))
 (.done (.tup [J 0,65,81,67,68,69,70,71,72,73,79])))))
 (.done (.tup [J 1,J 4])))))))
 (.done (.tup [J 1,J 4]))))
 (K Qa [81,J 2] 83
 (.ite 83
 (K Qg [81,J 5] 84
 (K Q4 [84] 85
 (.ite 85
 (.done (.tup [J 1,J 4]))
 (K Qa [66,J 2] 86
 (.ite 86
 (K Qg [66,J 5] 87
 (K Q4 [87] 88
 (.ite 88
 (.done (.tup [J 1,J 4]))
 (.done (.tup [J 0,65,66,67,68,69,70,71,72,73,79])))))
 (.done (.tup [J 1,J 4])))))))
 (.done (.tup [J 1,J 4]))))))))
 (.cons 1
 (.done (.tup [J 1,79]))
 .nil))))))
def c68:VC:=⟨⟨[],[]⟩,[(60,[(some 10)])],[],1,true,[(62,ft62)]⟩
def t68:VT:=
 (K Q5 [74] 75
 (K Q6 [75,J 2] 76
 (.ite 76
 (.done (.tup [J 1,J 4]))
 (.callF 62 ft62 [64,74] 77
 (.cons 1
 (K Q1 [79,J 0] 80
 (.lt Qb [79,80] 81 (some 10)
 (K Q1 [79,J 1] 91
 (K Q8 [79,91] 92
 (.call 60 [.agg [81,82,83,84,85,86,87,88,89,90],92] 93 [(some 10)]
 (K Q1 [79,J 1] 103
 (.lt Qb [79,103] 104 (some 10)
 (K Q1 [79,J 0] 114
 (K Q8 [79,114] 115
 (.call 60 [.agg [104,105,106,107,108,109,110,111,112,113],115] 116 [(some 10)]
 (K Q2 [94,117] 126
 (.ite 126
 (.done (.tup [J 1,J 4]))
 (K Q0 [65,J 9] 127
 (.ite 127
 (.done (.tup [J 0,65,J 1,67,68,69,70,71,72,73,.vsl 2 10 [93,94,95,96,97,98,99,100,101,102,116,117,118,119,120,121,122,123,124,125]]))
 (K Q0 [65,J 10] 128
 (.ite 128
 (.done (.tup [J 0,65,J 1,67,68,69,70,71,72,73,.vsl 2 10 [93,94,95,96,97,98,99,100,101,102,116,117,118,119,120,121,122,123,124,125]]))
 (K Q0 [65,J 11] 129
 (.ite 129
 (K Qa [94,J 2] 130
 (.ite 130
 (K Qg [94,J 5] 131
 (K Q4 [131] 132
 (.ite 132
 (.done (.tup [J 1,J 4]))
 (.done (.tup [J 0,65,J 1,67,68,69,70,71,72,73,.vsl 2 10 [93,94,95,96,97,98,99,100,101,102,116,117,118,119,120,121,122,123,124,125]])))))
 (.done (.tup [J 1,J 4]))))
 (K Q0 [65,J 12] 130
 (.ite 130
 (K Qa [94,J 2] 131
 (.ite 131
 (K Qg [94,J 5] 132
 (K Q4 [132] 133
 (.ite 133
 (.done (.tup [J 1,J 4]))
 (.done (.tup [J 0,65,J 1,67,68,69,70,71,72,73,.vsl 2 10 [93,94,95,96,97,98,99,100,101,102,116,117,118,119,120,121,122,123,124,125]])))))
 (.done (.tup [J 1,J 4]))))
 (K Qa [94,J 2] 131
 (.ite 131
 (K Qg [94,J 5] 132
 (K Q4 [132] 133
 (.ite 133
 (.done (.tup [J 1,J 4]))
 (K Q0 [65,J 8] 134
 (.ite 134
 (K Q0 [94,J 5] 135
 (.ite 135
 (.done (.tup [J 1,J 4]))
 (.done (.tup [J 0,65,94,67,68,69,70,71,72,73,.vsl 2 10 [93,94,95,96,97,98,99,100,101,102,116,117,118,119,120,121,122,123,124,125]]))))
 (.done (.tup [J 0,65,94,67,68,69,70,71,72,73,.vsl 2 10 [93,94,95,96,97,98,99,100,101,102,116,117,118,119,120,121,122,123,124,125]])))))))
 (.done (.tup [J 1,J 4]))))))))))))))))))))))))
 (.cons 1
 (.done (.tup [J 1,79]))
 .nil))))))
def c35:VC:=⟨⟨[],[]⟩,[],[],1,true,[(64,uE_),(65,uF_),(66,qG_),(67,sH_),(68,uH_)]⟩
def t35:VT:=
 (K Q0 [65,J 1] 75
 (.ite 75
 (.done (.tup [J 0,65,71,67,68,69,70,71,72,73,74]))
 (K Q0 [65,J 2] 76
 (.ite 76
 (.callF 64 uE_ [64,65,66,67,68,69,70,71,72,73,74] 77
 (.cons 10
 (.done (.tup [J 0,88,89,90,91,92,93,94,95,96,97]))
 (.cons 1
 (.done (.tup [J 1,88]))
 .nil)))
 (K Q0 [65,J 3] 77
 (.ite 77
 (.callF 65 uF_ [64,65,66,67,68,69,70,71,72,73,74] 78
 (.cons 10
 (.done (.tup [J 0,89,90,91,92,93,94,95,96,97,98]))
 (.cons 1
 (.done (.tup [J 1,89]))
 .nil)))
 (K Q0 [65,J 13] 78
 (.ite 78
 (.callF 66 qG_ [64,65,66,67,68,69,70,71,72,73,74,J 2] 79
 (.cons 10
 (.done (.tup [J 0,91,92,93,94,95,96,97,98,99,100]))
 (.cons 1
 (.done (.tup [J 1,91]))
 .nil)))
 (K Q0 [65,J 14] 79
 (.ite 79
 (.callF 66 qG_ [64,65,66,67,68,69,70,71,72,73,74,J 2] 80
 (.cons 10
 (.done (.tup [J 0,92,93,94,95,96,97,98,99,100,101]))
 (.cons 1
 (.done (.tup [J 1,92]))
 .nil)))
 (K Q0 [65,J 15] 80
 (.ite 80
 (.callF 66 qG_ [64,65,66,67,68,69,70,71,72,73,74,J 1] 81
 (.cons 10
 (.done (.tup [J 0,93,94,95,96,97,98,99,100,101,102]))
 (.cons 1
 (.done (.tup [J 1,93]))
 .nil)))
 (K Q0 [65,J 16] 81
 (.ite 81
 (.callF 67 sH_ [64,65,66,67,68,69,70,71,72,73,74] 82
 (.cons 10
 (.done (.tup [J 0,93,94,95,96,97,98,99,100,101,102]))
 (.cons 1
 (.done (.tup [J 1,93]))
 .nil)))
 (K Q0 [65,J 17] 82
 (.ite 82
 (.callF 67 sH_ [64,65,66,67,68,69,70,71,72,73,74] 83
 (.cons 10
 (.done (.tup [J 0,94,95,96,97,98,99,100,101,102,103]))
 (.cons 1
 (.done (.tup [J 1,94]))
 .nil)))
 (K Qj [65,J 4] 83
 (.ite 83
 (.done (.tup [J 1,J 4]))
 (K Qh [65,J 12] 84
 (.ite 84
 (.done (.tup [J 1,J 4]))
 (.callF 68 uH_ [64,65,66,67,68,69,70,71,72,73,74] 85
 (.cons 10
 (.done (.tup [J 0,96,97,98,99,100,101,102,103,104,105]))
 (.cons 1
 (.done (.tup [J 1,96]))
 .nil)))))))))))))))))))))))
theorem f_ (l:List GX):(XOp.len 43).run Tryz.prog [l_ l]=some (.int .i64 (l.length:Int)):=by rw [D_];exact tL_ Tryz.underlying43 l
theorem C_ (l:List GX) {i:Nat} (h:i<l.length):(XOp.iaddr 43).run Tryz.prog [l_ l,.int .i64 (i:Int)]=some (.vptr (cd_ d_ (l.drop i))):=by rw [D_];exact lq_ (e:=45) (ti:=(Tryz.prog.info? 45).get!) Tryz.underlying43 (by kernel_rfl) (by kernel_rfl) nJ_ h .i64
theorem H_ (l:List GX) {i:Nat} (h:i<l.length):(XOp.load 45).run Tryz.prog [.vptr (cd_ d_ (l.drop i))]=some (.agg (d_ l[i])):=
 run_load_agg (ti:=(Tryz.prog.info? 45).get!) Tryz.underlying45 rfl (by kernel_rfl) (by kernel_rfl) nJ_ h
theorem pQ_ (l:List GX) (s:GX) (hl:l.length<=100000):(XOp.app 10 112).run Tryz.prog [l_ l,.agg (d_ s)]=some (l_ (l++[s])):=by rw [D_,D_];exact tJ_ nJ_ (by decide) (by decide) l s (by omega)
theorem B_ (l:List GX) {i:Nat} (hi:i<l.length) (y:GX) (k:IntKind):(XOp.stx 45 10 0).run Tryz.prog [l_ l,.int k (i:Int),.agg (d_ y)]=some (l_ (l.set i y)):=by rw [D_,D_];exact t3_ (ti:=(Tryz.prog.info? 45).get!) nJ_ hi (p:=[]) (q:=d_ l[i]) (r:=[]) (xs:=d_ y) rfl (.inl rfl) (by kernel_rfl) (by rw [nJ_];kernel_rfl) (U_ (G_ _)) (by simp) rfl (by rw [nJ_,nJ_]) (by simp) k
theorem T_ (x:GX):okL (d_ x++[])=true:=by rw [List.append_nil];exact G_ x
section
variable {P:Program} {Q:AV->Prop} {L:List (Nat->List AV->Prop)} {Y:Sy} {i:Nat} {A B:VT}
theorem uI_ {p:Prop} [Decidable p] (h0:Y.v i=some (.bool (decide p))) (h1:p->VOK P Q L Y A) (h2:¬p->VOK P Q L Y B):VOK P Q L Y (.ite i A B):=
 uB_ h0 (λh=>h1 (of_decide_eq_true h)) (λh=>h2 (of_decide_eq_false h))
theorem s2_ {p:Prop} [Decidable p] (h0:Y.v i=some (.bool !(decide p))) (h1:¬p->VOK P Q L Y A) (h2:p->VOK P Q L Y B):VOK P Q L Y (.ite i A B):=
 uB_ h0 (λh=>h1 (by simpa using h)) (λh=>h2 (by simpa using h))
end
theorem qI_ (x:GX) (n:Int):okL (ADDRS::(d_ x++[.int .i64 n]))=true:=by rw [aN_];exact tX_ x n
def RA (d n:Nat):Nat->List AV->Prop
 |0,ws=>∃l:List GX,ws=[l_ l]/\l.length=n/\∀a∈l,KE d a
 |_+1,ws=>∃e:Int,e≠0/\ws=[.int .i64 e]
def PE (d:Nat) (x:GX):Prop:=CF Tryz.prog 35 Q_ (ADDRS::d_ x) (RO (KE d))
theorem nQ_ (l:List GX):okL [ADDRS,l_ l]=true:=by simp only [okL,okC,okA];rfl
theorem p62 {d:Nat} (l:List GX) (hl:l.length<=100) (ih:∀a∈l,PE d a):CF Tryz.prog 62 ft62 [ADDRS,l_ l] (RA d l.length):=by
 refine uD_ (c:=c62) (n:=300) (t:=t62) mo ov rfl (λY _=>uZ_ _) (by kernel_rfl) λY hf hg=>?_;unfold t62;refine uR_ (f_ l) rfl ?_;refine ua_ (ι:=List GX×Nat) (λs=>[.int .i64 (s.2:Int),l_ s.1]) (λs=>s.1.length=s.2/\s.2<=l.length/\∀a∈s.1,KE d a) (λs=>l.length-s.2) ([],0) ⟨rfl,Nat.zero_le _,λa ha=>(List.not_mem_nil ha).elim⟩ rfl (λs _=>by simp only [okL,okC,okA]) (λs s' _ _ h=>by simp at h;omega) (λs hs=>?_);obtain ⟨acc,i⟩:=s;obtain ⟨h1,h2,h3⟩:=hs;simp only at h1 h2 h3⊢
 (refine c_ rfl rfl ?_ ?_<;>intro h<;>simp only [nc]at h<;>try omega)
 have hi:i<l.length:=(by omega);have hld:=H_ l hi;have hz:=ih l[i] (List.getElem_mem hi);rcases hzz:l[i]with ⟨zo,zk,znm,zfd,zad,zn,zvk,zvi,zvf,za⟩;rw [hzz]at hld hz;refine uR_ (C_ l hi) (ot_ G_ _) (uC_ hld rfl (G_ _) ?_);refine a_ hz rfl (O_ _) ⟨?_,?_,trivial⟩;rintro ws ⟨⟨yo,yk,ynm,yfd,yad,yn,yvk,yvi,yvf,ya⟩,rfl,hy⟩;refine uR_ (pQ_ acc (.mk yo yk ynm yfd yad yn yvk yvi yvf ya) (by omega)) (okA _) (uR_ (o_ (by omega) (by omega)) rfl (tZ_ rfl ⟨(acc++[_],i+1),⟨by simp;omega,hi,?_⟩,rfl,by simp only;omega⟩));intro a ha;rcases List.mem_append.1 ha with ha|ha;exact h3 a ha;cases List.mem_singleton.1 ha;exact hy;rintro ws ⟨e,he,rfl⟩;exact VOK_fin (j:=1) rfl ⟨e,he,rfl⟩;exact VOK_fin (j:=0) (by show okL [l_ acc]=true;simp only [okL,okA]) ⟨acc,rfl,by omega,h3⟩
def ix1:List GX->Nat->Int
 |[],_=> -1
 |a::r,i=>if a.kd=1 then ix1 r (i+1)else (i:Int)
theorem oJ_:∀{l:List GX} {i:Nat},ix1 l i<0->∀a∈l,a.kd=1
 |[],_,_,_,h=>(List.not_mem_nil h).elim
 |a::r,i,h,b,hb=>by unfold ix1 at h;split at h;rename_i h1;rcases List.mem_cons.1 hb with rfl|hb;exact h1;exact oJ_ h b hb;omega
theorem p91 (l:List GX) (hl:l.length<=100):kD_ Tryz.prog 91 [l_ l,.fn 86 []] (.int .i64 (ix1 l 0)):=by
 refine un_ (args':=[.sym 64,.fn 86 []]) (ls:=[l_ l]) (c:=c91) (n:=300) (t:=t91) mo ov (ra_ (by simp only [okL,okA];rfl)) rfl (by simp only [okL,okA]) rfl (λY _=>rfl) (λY _=>uZ_ _) rfl (by kernel_rfl) λY hf hg=>?_;unfold t91;refine uR_ (f_ l) rfl ?_;refine ua_ (ι:=Nat) (λi=>[.int .i64 (i:Int)]) (λi=>i<=l.length/\ix1 (l.drop i) i=ix1 l 0) (λi=>l.length-i) 0 ⟨Nat.zero_le _,rfl⟩ rfl (λ_ _=>rfl) (λi j _ _ h=>by simp at h;omega) (λi hs=>?_);obtain ⟨h2,h3⟩:=hs
 (refine c_ rfl rfl ?_ ?_<;>intro h<;>simp only [nc]at h<;>try omega)
 .have hi:i<l.length:=(by omega);have hld:=H_ l hi;rw [List.drop_eq_getElem_cons hi]at h3;rcases hzz:l[i]with ⟨zo,zk,znm,zfd,zad,zn,zvk,zvi,zvf,za⟩;rw [hzz]at hld h3;refine uR_ (C_ l hi) (ot_ G_ _) (uC_ hld rfl (G_ _) ?_);rw [ix1]at h3
  (refine c_ rfl rfl ?_ ?_<;>intro h<;>simp only [nc]at h<;>try omega)
  rw [if_neg (by exact h)]at h3;exact t9_ (by show AV.int .i64 (i:Int)=_;rw [h3]);rw [if_pos (by exact h)]at h3;refine uR_ (o_ (by omega) (by omega)) rfl (tZ_ rfl ⟨i+1,⟨hi,h3⟩,rfl,by omega⟩)
 have hi:i=l.length:=(by omega);subst hi;rw [List.drop_length]at h3;exact t9_ (by rw [←h3];rfl)
theorem p85 (l:List GX) (hl:l.length<=100):kD_ Tryz.prog 85 [l_ l,.fn 86 []] (.bool (decide (0<=ix1 l 0))):=by refine un_ (args':=[.sym 64,.fn 86 []]) (ls:=[l_ l]) (c:=c85) (n:=300) (t:=t85) mo ov (ra_ (by simp only [okL,okA];rfl)) rfl (by simp only [okL,okA]) rfl (λY _=>rfl) (λY _=>uZ_ _) rfl (by kernel_rfl) λY hf hg=>?_;unfold t85;refine t8_ (p91 l hl) rfl rfl (uR_ (run_geq ..) rfl (t9_ rfl))
section
variable {d:Nat} {op kd ad n vk vi:Int} {nm fd:List UInt8} {vf:Nat} {args:List GX}
theorem ak_ {l:List GX} {k:Nat} (h:l.length=k) (hk:(k:Int)=1):∃y,l=[y]:=List.length_eq_one_iff.1 (by omega)
theorem M_ {l:List GX} {k:Nat} (h:l.length=k) (hk:(k:Int)=2):∃y z,l=[y,z]:=by rcases l with _|⟨y,_|⟨z,_|⟨w,t⟩⟩⟩<;>simp at h<;>first|exact ⟨y,z,rfl⟩|omega
theorem KE1 {kd':Int} {y:GX} (ho:op≠1) (h1:1<=kd'/\kd'<=5) (hy:KE d y):KE (d+1) (.mk op kd' nm fd ad n vk vi vf [y]):=⟨h1.1,h1.2,λh=>absurd h ho,λa b h=>by simp at h,by simp,λa ha=>by cases List.mem_singleton.1 ha;exact hy⟩
theorem KE2 {kd':Int} {y z:GX} (ho:op≠1) (h1:1<=kd'/\kd'<=5) (hy:KE d y) (hz:KE d z) (hk:y.kd=z.kd):KE (d+1) (.mk op kd' nm fd ad n vk vi vf [y,z]):=⟨h1.1,h1.2,λh=>absurd h ho,λa b h=>by simp at h;obtain ⟨rfl,rfl⟩:=h;exact hk,by simp,λa ha=>by
 rcases List.mem_cons.1 ha with rfl|ha;exact hy
 .cases List.mem_singleton.1 ha;exact hz⟩
variable (hA:CF Tryz.prog 62 ft62 [ADDRS,l_ args] (RA d args.length))
include hA
theorem p65 (ho:op≠1) (hn:nm=[107]):CF Tryz.prog 65 uF_ (ADDRS::d_ (.mk op kd nm fd ad n vk vi vf args)) (RO (KE (d+1))):=by
 refine uD_ (c:=c65) (n:=300) (t:=t65) mo ov rfl (λY _=>uZ_ _) (by kernel_rfl) λY hf hg=>?_;unfold t65;subst hn;refine a_ (p59 Go.Proofs.YtbjjpimpabbpdaaGreatDoor.vars.vk (by simp [m_])) rfl rfl ⟨?_,λws h=>h.elim,trivial⟩;rintro ws rfl;refine uR_ rfl rfl (uB_ rfl (λh=>by cases h) (λ_=>?_));refine uR_ (f_ args) rfl ?_
 (refine c_ rfl rfl ?_ ?_<;>intro h<;>simp only [nc]at h<;>try omega)
 exact x_ rfl (by decide);refine a_ hA rfl (nQ_ _) ⟨?_,?_,trivial⟩
 .rintro ws ⟨l,rfl,hl,hk⟩;obtain ⟨⟨yo,yk,ynm,yfd,yad,yn,yvk,yvi,yvf,ya⟩,rfl⟩:=ak_ hl h;have hy:=hk _ (List.mem_singleton.2 rfl);refine uR_ (r:=.int .i64 0) rfl rfl (uR_ (r:=.int .i64 yk) rfl rfl ?_)
  (refine c_ rfl rfl ?_ ?_<;>intro h<;>simp only [nc]at h<;>try omega)
  exact s_ (y:=.mk op 2 [107] fd 8 4 vk vi vf [.mk ..]) rfl (KE1 ho (by decide) hy);refine uR_ (run_eql ..) rfl (uR_ (uN_ ..) rfl (uB_ rfl (λ_=>x_ rfl (by decide)) (λ_=>s_ (y:=.mk op 2 [107] fd 8 4 vk vi vf [.mk ..]) rfl (KE1 ho (by decide) hy))))
 rintro ws ⟨e,he,rfl⟩;exact x_ rfl he
theorem p67 (ho:op≠1):CF Tryz.prog 67 sH_ (ADDRS::d_ (.mk op kd nm fd ad n vk vi vf args)) (RO (KE (d+1))):=by
 refine uD_ (c:=c67) (n:=300) (t:=t67) mo ov rfl (λY _=>uZ_ _) (by kernel_rfl) λY hf hg=>?_;unfold t67;refine uR_ (f_ args) rfl ?_
 (refine c_ rfl rfl ?_ ?_<;>intro h<;>simp only [nc]at h<;>try omega)
 exact x_ rfl (by decide);refine a_ hA rfl (nQ_ _) ⟨?_,?_,trivial⟩
 .rintro ws ⟨l,rfl,hl,hk⟩;obtain ⟨⟨yo,yk,ynm,yfd,yad,yn,yvk,yvi,yvf,ya⟩,rfl⟩:=ak_ hl h;have hy:=hk _ (List.mem_singleton.2 rfl);refine uR_ (r:=.int .i64 0) rfl rfl (uR_ (r:=.int .i64 yk) rfl rfl ?_);repeat' (first
            |(refine c_ rfl rfl ?_ ?_<;>intro h<;>simp only [nc]at h<;>try omega)
            |refine uI_ rfl (λh=>?_) (λh=>?_)
            |refine s2_ rfl (λh=>?_) (λh=>?_)
            |refine uR_ (run_eql ..) rfl ?_
            |refine uR_ (run_neq ..) rfl ?_
            |refine uR_ (run_leq ..) rfl ?_
            |refine uR_ (uN_ ..) rfl ?_)
  all_goals first
   |exact x_ rfl (by decide)
   |exact s_ (y:=.mk _ _ _ _ _ _ _ _ _ [.mk ..]) rfl (KE1 ho (by omega) hy)
 rintro ws ⟨e,he,rfl⟩;exact x_ rfl he
theorem p66 {m:Int} (ho:op≠1) (hm:m=1\/m=2) (hal:args.length<=100):CF Tryz.prog 66 qG_ (ADDRS::(d_ (.mk op kd nm fd ad n vk vi vf args)++[.int .i64 m])) (RO (KE (d+1))):=by
 refine uD_ (c:=c66) (n:=300) (t:=t66) mo ov rfl (λY _=>uZ_ _) (by kernel_rfl) λY hf hg=>?_;unfold t66;refine uR_ (f_ args) rfl ?_
 (refine c_ rfl rfl ?_ ?_<;>intro h<;>simp only [nc]at h<;>try omega)
 exact x_ rfl (by decide);refine a_ hA rfl (nQ_ _) ⟨?_,?_,trivial⟩;rintro ws ⟨l,rfl,hl,hk⟩;refine t8_ (p85 l (by omega)) rfl rfl ?_;refine uI_ rfl (λh2=>x_ rfl (by decide)) (λh2=>?_);have h3:=oJ_ (Int.not_le.1 h2);refine s_ (y:=.mk op 1 nm fd ad n vk vi vf l) rfl ⟨by decide,by decide,λh=>absurd h ho,λa b h=>?_,by omega,hk⟩;subst h;rw [h3 a (List.mem_cons_self ..),h3 b (List.mem_cons_of_mem _ (List.mem_singleton.2 rfl))];rintro ws ⟨e,he,rfl⟩;exact x_ rfl he
theorem p68 (ho:4<=op/\op<=12):CF Tryz.prog 68 uH_ (ADDRS::d_ (.mk op kd nm fd ad n vk vi vf args)) (RO (KE (d+1))):=by
 refine uD_ (c:=c68) (n:=300) (t:=t68) mo ov rfl (λY _=>uZ_ _) (by kernel_rfl) λY hf hg=>?_;unfold t68;refine uR_ (f_ args) rfl ?_
 (refine c_ rfl rfl ?_ ?_<;>intro h<;>simp only [nc]at h<;>try omega)
 exact x_ rfl (by decide);refine a_ hA rfl (nQ_ _) ⟨?_,?_,trivial⟩
 .rintro ws ⟨l,rfl,hl,hk⟩;obtain ⟨⟨yo,yk,ynm,yfd,yad,yn,yvk,yvi,yvf,ya⟩,⟨zo,zk,znm,zfd,zad,zn,zvk,zvi,zvf,za⟩,rfl⟩:=M_ hl h;have hy:=hk _ (List.mem_cons_self ..);have hz:=hk _ (List.mem_cons_of_mem _ (List.mem_singleton.2 rfl));refine uR_ (r:=.int .i64 0) rfl rfl (uC_ (cs:=d_ (.mk yo yk ynm yfd yad yn yvk yvi yvf ya)) rfl rfl (G_ _) (uR_ (r:=.int .i64 1) rfl rfl (uR_ (r:=.int .i64 zk) rfl rfl ?_)));obtain ⟨⟨yo1,yk1,ynm1,yfd1,yad1,yn1,yvk1,yvi1,yvf1,ya1⟩,hp1,hy1⟩:=p60 _ zk hy;refine t8_ hp1 rfl (T_ _) ?_;refine uR_ (r:=.int .i64 1) rfl rfl (uC_ (cs:=d_ (.mk zo zk znm zfd zad zn zvk zvi zvf za)) rfl rfl (G_ _) (uR_ (r:=.int .i64 0) rfl rfl (uR_ (r:=.int .i64 yk) rfl rfl ?_)));obtain ⟨⟨zo1,zk1,znm1,zfd1,zad1,zn1,zvk1,zvi1,zvf1,za1⟩,hp2,hz1⟩:=p60 _ yk hz;refine t8_ hp2 rfl (T_ _) ?_;have hk1:1<=yk1/\yk1<=5:=uU_ hy1;have ho1:op≠1:=by omega
  (refine c_ rfl rfl ?_ ?_<;>intro h<;>simp only [nc]at h<;>try omega)
  exact x_ rfl (by decide);have hkk:yk1=zk1:=h;repeat' (first
            |(refine c_ rfl rfl ?_ ?_<;>intro h<;>simp only [nc]at h<;>try omega)
            |refine uI_ rfl (λh=>?_) (λh=>?_)
            |refine s2_ rfl (λh=>?_) (λh=>?_)
            |refine uR_ (run_eql ..) rfl ?_
            |refine uR_ (run_neq ..) rfl ?_
            |refine uR_ (run_leq ..) rfl ?_
            |refine uR_ (uN_ ..) rfl ?_)
  all_goals first
   |exact x_ rfl (by decide)
   |exact s_ (y:=.mk _ _ _ _ _ _ _ _ _ [.mk ..,.mk ..]) rfl (KE2 ho1 (by omega) hy1 hz1 hkk)
 rintro ws ⟨e,he,rfl⟩;exact x_ rfl he
end
theorem p35:∀(d:Nat) (x:GX),WX d x->PE d x
 |0,_,h=>h.elim
 |d+1,.mk op kd nm fd ad n vk vi vf args,hx=>by
  obtain ⟨hA,hF,⟨n1,n2,n3,n4⟩,hW⟩:=hx;have hal:args.length<=2:=(by unfold Ari at hA;omega);have hC:=p62 args (by omega) (λz hz=>p35 d z (hW z hz));refine uD_ (c:=c35) (n:=300) (t:=t35) mo ov rfl (λY _=>uZ_ _) (by kernel_rfl) λY hf hg=>?_;unfold t35
  (refine c_ rfl rfl ?_ ?_<;>intro h<;>simp only [nc]at h<;>try omega)
  subst h;have hl:args=[]:=(by unfold Ari at hA;exact List.length_eq_zero_iff.1 (by omega));subst hl;obtain ⟨m1,m2,m3,m4,m5,m6⟩:=n1 rfl;exact s_ (y:=.mk 1 vk nm fd ad n vk vi vf []) rfl ⟨by omega,by omega,λ_=>rfl,λa b h=>by simp at h,by simp,λa ha=>(List.not_mem_nil ha).elim⟩
  (refine c_ rfl rfl ?_ ?_<;>intro h<;>simp only [nc]at h<;>try omega)
  subst h;have hl:args=[]:=(by unfold Ari at hA;exact List.length_eq_zero_iff.1 (by omega));subst hl;refine a_ (p64 2 kd nm fd ad n vk vi vf [] (n2 rfl)) rfl (O_ (.mk 2 kd nm fd ad n vk vi vf [])) ⟨?_,?_,trivial⟩;rintro ws ⟨y,rfl,kd1,ad1,rfl,k1,k2⟩;exact s_ (y:=.mk 2 kd1 nm fd ad1 n vk vi vf []) rfl ⟨k1,k2,λh=>by omega,λa b h=>by simp at h,by simp,λa ha=>(List.not_mem_nil ha).elim⟩;rintro ws ⟨e,he,rfl⟩;exact x_ rfl he
  (refine c_ rfl rfl ?_ ?_<;>intro h<;>simp only [nc]at h<;>try omega)
  .have ho:op≠1:=(by omega);refine a_ (p65 hC ho (n3 h)) rfl (O_ (.mk op kd nm fd ad n vk vi vf args)) ⟨?_,?_,trivial⟩;all_goals (first
               |(rintro ws ⟨⟨yo,yk,ynm,yfd,yad,yn,yvk,yvi,yvf,ya⟩,rfl,hy⟩
                 exact s_ (y:=.mk ..) rfl hy)
               |(rintro ws ⟨e,he,rfl⟩
                 exact x_ rfl he))
  (refine c_ rfl rfl ?_ ?_<;>intro h<;>simp only [nc]at h<;>try omega)
  .refine a_ (p66 hC (m:=2) (by omega) (.inr rfl) (by omega)) rfl (qI_ (.mk op kd nm fd ad n vk vi vf args) 2) ⟨?_,?_,trivial⟩;all_goals (first
               |(rintro ws ⟨⟨yo,yk,ynm,yfd,yad,yn,yvk,yvi,yvf,ya⟩,rfl,hy⟩
                 exact s_ (y:=.mk ..) rfl hy)
               |(rintro ws ⟨e,he,rfl⟩
                 exact x_ rfl he))
  (refine c_ rfl rfl ?_ ?_<;>intro h<;>simp only [nc]at h<;>try omega)
  .refine a_ (p66 hC (m:=2) (by omega) (.inr rfl) (by omega)) rfl (qI_ (.mk op kd nm fd ad n vk vi vf args) 2) ⟨?_,?_,trivial⟩;all_goals (first
               |(rintro ws ⟨⟨yo,yk,ynm,yfd,yad,yn,yvk,yvi,yvf,ya⟩,rfl,hy⟩
                 exact s_ (y:=.mk ..) rfl hy)
               |(rintro ws ⟨e,he,rfl⟩
                 exact x_ rfl he))
  (refine c_ rfl rfl ?_ ?_<;>intro h<;>simp only [nc]at h<;>try omega)
  .refine a_ (p66 hC (m:=1) (by omega) (.inl rfl) (by omega)) rfl (qI_ (.mk op kd nm fd ad n vk vi vf args) 1) ⟨?_,?_,trivial⟩;all_goals (first
               |(rintro ws ⟨⟨yo,yk,ynm,yfd,yad,yn,yvk,yvi,yvf,ya⟩,rfl,hy⟩
                 exact s_ (y:=.mk ..) rfl hy)
               |(rintro ws ⟨e,he,rfl⟩
                 exact x_ rfl he))
  (refine c_ rfl rfl ?_ ?_<;>intro h<;>simp only [nc]at h<;>try omega)
  .refine a_ (p67 hC (by omega)) rfl (O_ (.mk op kd nm fd ad n vk vi vf args)) ⟨?_,?_,trivial⟩;all_goals (first
               |(rintro ws ⟨⟨yo,yk,ynm,yfd,yad,yn,yvk,yvi,yvf,ya⟩,rfl,hy⟩
                 exact s_ (y:=.mk ..) rfl hy)
               |(rintro ws ⟨e,he,rfl⟩
                 exact x_ rfl he))
  (refine c_ rfl rfl ?_ ?_<;>intro h<;>simp only [nc]at h<;>try omega)
  .refine a_ (p67 hC (by omega)) rfl (O_ (.mk op kd nm fd ad n vk vi vf args)) ⟨?_,?_,trivial⟩;all_goals (first
               |(rintro ws ⟨⟨yo,yk,ynm,yfd,yad,yn,yvk,yvi,yvf,ya⟩,rfl,hy⟩
                 exact s_ (y:=.mk ..) rfl hy)
               |(rintro ws ⟨e,he,rfl⟩
                 exact x_ rfl he))
  (refine c_ rfl rfl ?_ ?_<;>intro h<;>simp only [nc]at h<;>try omega)
  exact x_ rfl (by decide)
  (refine c_ rfl rfl ?_ ?_<;>intro h<;>simp only [nc]at h<;>try omega)
  exact x_ rfl (by decide);refine a_ (p68 hC (by omega)) rfl (O_ (.mk op kd nm fd ad n vk vi vf args)) ⟨?_,?_,trivial⟩;all_goals (first
              |(rintro ws ⟨⟨yo,yk,ynm,yfd,yad,yn,yvk,yvi,yvf,ya⟩,rfl,hy⟩
                exact s_ (y:=.mk ..) rfl hy)
              |(rintro ws ⟨e,he,rfl⟩
                exact x_ rfl he))
end Go.Proofs.YtbjjpimpabbpdaaGreatDoor.vars
set_option maxRecDepth 100000
set_option linter.unusedVariables false
set_option linter.unusedSimpArgs false
namespace Go.Proofs.YtbjjpimpabbpdaaGreatDoor.vars
open Go Go.Sx
def c32:VC:=⟨⟨[],[]⟩,[(60,[(some 10)])],[],1,true,[(35,Q_),(59,S_)]⟩
def t32:VT:=
 (.callF 35 Q_ [64,76,77,78,79,80,81,82,83,84,85] 92
 (.cons 10
 (K Q6 [66,J 2] 113
 (.ite 113
 (K Q6 [66,J 3] 114
 (.ite 114
 (.done (.tup [J 1,J 4]))
 (.callF 59 S_ [64,68] 115
 (.cons 11
 (K Qr [69,.str []] 128
 (.ite 128
 (.done (.tup [J 1,J 4]))
 (.callF 35 Q_ [64,66,67,68,69,70,71,72,73,74,75] 129
 (.cons 10
 (K Q0 [118,J 1] 150
 (.ite 150
 (.done (.tup [J 1,J 13]))
 (.call 60 [.agg [103,104,105,106,107,108,109,110,111,112],141] 151 [(some 10)]
 (K Q2 [152,141] 161
 (.ite 161
 (.done (.tup [J 1,J 4]))
 (.done (.tup [J 0,65,140,141,142,143,144,145,146,147,148,149,151,152,153,154,155,156,157,158,159,160,86,87,88,89,90,91])))))))
 (.cons 1
 (.done (.tup [J 1,140]))
 .nil)))))
 (.cons 1
 (.done (.tup [J 1,117]))
 .nil)))))
 (.callF 59 S_ [64,68] 114
 (.cons 11
 (K Qr [69,.str []] 127
 (.ite 127
 (.done (.tup [J 1,J 4]))
 (.callF 35 Q_ [64,66,67,68,69,70,71,72,73,74,75] 128
 (.cons 10
 (K Q0 [117,J 1] 149
 (.ite 149
 (.done (.tup [J 1,J 13]))
 (.call 60 [.agg [103,104,105,106,107,108,109,110,111,112],140] 150 [(some 10)]
 (K Q2 [151,140] 160
 (.ite 160
 (.done (.tup [J 1,J 4]))
 (.done (.tup [J 0,65,139,140,141,142,143,144,145,146,147,148,150,151,152,153,154,155,156,157,158,159,86,87,88,89,90,91])))))))
 (.cons 1
 (.done (.tup [J 1,139]))
 .nil)))))
 (.cons 1
 (.done (.tup [J 1,116]))
 .nil)))))
 (.cons 1
 (.done (.tup [J 1,103]))
 .nil)))
def c33:VC:=⟨⟨[],[]⟩,[(60,[(some 10)])],[],1,true,[(59,S_),(62,ft62)]⟩
def t33:VT:=
 (.callF 59 S_ [64,88] 92
 (.cons 11
 (K Qa [96,J 6] 105
 (K Q4 [105] 106
 (.ite 106
 (.done (.tup [J 1,J 4]))
 (.callF 62 ft62 [64,91] 107
 (.cons 1
 (K Q0 [96,J 6] 110
 (.ite 110
 (K Q5 [109] 111
 (K Q2 [111,J 2] 112
 (.ite 112
 (.done (.tup [J 1,J 4]))
 (K Q1 [109,J 0] 113
 (.lt Qb [109,113] 114 (some 10)
 (.call 60 [.agg [114,115,116,117,118,119,120,121,122,123],J 1] 124 [(some 10)]
 (K Q1 [109,J 0] 134
 (K Qe [109,134,.agg [124,125,126,127,128,129,130,131,132,133]] 135
 (K Q1 [109,J 0] 136
 (K Q8 [135,136] 137
 (K Q2 [137,J 1] 138
 (.ite 138
 (.done (.tup [J 1,J 4]))
 (K Q1 [109,J 1] 139
 (.lt Qb [135,139] 140 (some 10)
 (.call 60 [.agg [140,141,142,143,144,145,146,147,148,149],J 4] 150 [(some 10)]
 (K Q1 [109,J 1] 160
 (K Qe [135,160,.agg [150,151,152,153,154,155,156,157,158,159]] 161
 (K Q1 [109,J 1] 162
 (K Q8 [161,162] 163
 (K Q2 [163,J 4] 164
 (.ite 164
 (.done (.tup [J 1,J 4]))
 (.chk (.same 109 161)
 (.done (.tup [J 0,65,66,67,68,69,70,71,72,73,74,75,76,77,78,79,80,81,82,83,84,85,86,87,88,96,104,161]))))))))))))))))))))))))
 (K Q0 [96,J 7] 111
 (.ite 111
 (K Q5 [109] 112
 (K Q2 [112,J 2] 113
 (.ite 113
 (.done (.tup [J 1,J 4]))
 (K Q1 [109,J 0] 114
 (.lt Qb [109,114] 115 (some 10)
 (.call 60 [.agg [115,116,117,118,119,120,121,122,123,124],J 1] 125 [(some 10)]
 (K Q1 [109,J 0] 135
 (K Qe [109,135,.agg [125,126,127,128,129,130,131,132,133,134]] 136
 (K Q1 [109,J 0] 137
 (K Q8 [136,137] 138
 (K Q2 [138,J 1] 139
 (.ite 139
 (.done (.tup [J 1,J 4]))
 (K Q1 [109,J 1] 140
 (.lt Qb [136,140] 141 (some 10)
 (.call 60 [.agg [141,142,143,144,145,146,147,148,149,150],J 4] 151 [(some 10)]
 (K Q1 [109,J 1] 161
 (K Qe [136,161,.agg [151,152,153,154,155,156,157,158,159,160]] 162
 (K Q1 [109,J 1] 163
 (K Q8 [162,163] 164
 (K Q2 [164,J 4] 165
 (.ite 165
 (.done (.tup [J 1,J 4]))
 (.chk (.same 109 162)
 (.done (.tup [J 0,65,66,67,68,69,70,71,72,73,74,75,76,77,78,79,80,81,82,83,84,85,86,87,88,96,104,162]))))))))))))))))))))))))
 (K Q0 [96,J 8] 112
 (.ite 112
 (K Q5 [109] 113
 (K Q2 [113,J 2] 114
 (.ite 114
 (.done (.tup [J 1,J 4]))
 (K Q1 [109,J 0] 115
 (.lt Qb [109,115] 116 (some 10)
 (.call 60 [.agg [116,117,118,119,120,121,122,123,124,125],J 1] 126 [(some 10)]
 (K Q1 [109,J 0] 136
 (K Qe [109,136,.agg [126,127,128,129,130,131,132,133,134,135]] 137
 (K Q1 [109,J 0] 138
 (K Q8 [137,138] 139
 (K Q2 [139,J 1] 140
 (.ite 140
 (.done (.tup [J 1,J 4]))
 (K Q1 [109,J 1] 141
 (.lt Qb [137,141] 142 (some 10)
 (.call 60 [.agg [142,143,144,145,146,147,148,149,150,151],J 4] 152 [(some 10)]
 (K Q1 [109,J 1] 162
 (K Qe [137,162,.agg [152,153,154,155,156,157,158,159,160,161]] 163
 (K Q1 [109,J 1] 164
 (K Q8 [163,164] 165
 (K Q2 [165,J 4] 166
 (.ite 166
 (.done (.tup [J 1,J 4]))
 (.chk (.same 109 163)
 (.done (.tup [J 0,65,66,67,68,69,70,71,72,73,74,75,76,77,78,79,80,81,82,83,84,85,86,87,88,96,104,163]))))))))))))))))))))))))
 (K Q0 [96,J 9] 113
 (.ite 113
 (K Q5 [109] 114
 (K Q2 [114,J 2] 115
 (.ite 115
 (.done (.tup [J 1,J 4]))
 (K Q1 [109,J 0] 116
 (.lt Qb [109,116] 117 (some 10)
 (.call 60 [.agg [117,118,119,120,121,122,123,124,125,126],J 1] 127 [(some 10)]
 (K Q1 [109,J 0] 137
 (K Qe [109,137,.agg [127,128,129,130,131,132,133,134,135,136]] 138
 (K Q1 [109,J 0] 139
 (K Q8 [138,139] 140
 (K Q2 [140,J 1] 141
 (.ite 141
 (.done (.tup [J 1,J 4]))
 (K Q1 [109,J 1] 142
 (.lt Qb [138,142] 143 (some 10)
 (.call 60 [.agg [143,144,145,146,147,148,149,150,151,152],J 2] 153 [(some 10)]
 (K Q1 [109,J 1] 163
 (K Qe [138,163,.agg [153,154,155,156,157,158,159,160,161,162]] 164
 (K Q1 [109,J 1] 165
 (K Q8 [164,165] 166
 (K Q2 [166,J 2] 167
 (.ite 167
 (.done (.tup [J 1,J 4]))
 (.chk (.same 109 164)
 (.done (.tup [J 0,65,66,67,68,69,70,71,72,73,74,75,76,77,78,79,80,81,82,83,84,85,86,87,88,96,104,164]))))))))))))))))))))))))
 (K Q0 [96,J 10] 114
 (.ite 114
 (K Q5 [109] 115
 (K Q2 [115,J 2] 116
 (.ite 116
 (.done (.tup [J 1,J 4]))
 (K Q1 [109,J 0] 117
 (.lt Qb [109,117] 118 (some 10)
 (.call 60 [.agg [118,119,120,121,122,123,124,125,126,127],J 1] 128 [(some 10)]
 (K Q1 [109,J 0] 138
 (K Qe [109,138,.agg [128,129,130,131,132,133,134,135,136,137]] 139
 (K Q1 [109,J 0] 140
 (K Q8 [139,140] 141
 (K Q2 [141,J 1] 142
 (.ite 142
 (.done (.tup [J 1,J 4]))
 (K Q1 [109,J 1] 143
 (.lt Qb [139,143] 144 (some 10)
 (.call 60 [.agg [144,145,146,147,148,149,150,151,152,153],J 2] 154 [(some 10)]
 (K Q1 [109,J 1] 164
 (K Qe [139,164,.agg [154,155,156,157,158,159,160,161,162,163]] 165
 (K Q1 [109,J 1] 166
 (K Q8 [165,166] 167
 (K Q2 [167,J 2] 168
 (.ite 168
 (.done (.tup [J 1,J 4]))
 (.chk (.same 109 165)
 (.done (.tup [J 0,65,66,67,68,69,70,71,72,73,74,75,76,77,78,79,80,81,82,83,84,85,86,87,88,96,104,165]))))))))))))))))))))))))
 (K Q5 [109] 115
 (K Q2 [115,J 1] 116
 (.ite 116
 (.done (.tup [J 1,J 4]))
 (K Q1 [109,J 0] 117
 (.lt Qb [109,117] 118 (some 10)
 (.call 60 [.agg [118,119,120,121,122,123,124,125,126,127],J 1] 128 [(some 10)]
 (K Q1 [109,J 0] 138
 (K Qe [109,138,.agg [128,129,130,131,132,133,134,135,136,137]] 139
 (K Q1 [109,J 0] 140
 (K Q8 [139,140] 141
 (K Q2 [141,J 1] 142
 (.ite 142
 (.done (.tup [J 1,J 4]))
 (.chk (.same 109 139)
 (.done (.tup [J 0,65,66,67,68,69,70,71,72,73,74,75,76,77,78,79,80,81,82,83,84,85,86,87,88,96,104,139])))))))))))))))))))))))))
 (.cons 1
 (.done (.tup [J 1,109]))
 .nil))))))
 (.cons 1
 (.done (.tup [J 1,94]))
 .nil)))
def c18:VC:=⟨⟨[],[]⟩,[],[(0,[⟨[(9,.slx 0 0 0),(4,.slx 1 27 1),(0,.ptr 0 0),(7,65),(8,66)],[(0,[VARS,64])],2,2,[⟨1,27,1,4,none⟩],[],[]⟩])],1,true,[(32,sB_),(33,uz_),(35,Q_),(18,hc_)]⟩
def t18:VT:=
 (K Qn [65] 66
 (.loop 67 0 [J 0,.nsl]
 (.cons 2
 (K Qm [67,66] 69
 (.ite 69
 (K (.iaddr 25) [65,67] 70
 (.lt (.load 47) [70] 71 (some 27)
 (K Q0 [71,J 1] 98
 (.ite 98
 (.callF 32 sB_ [64,71,72,73,74,75,76,77,78,79,80,81,82,83,84,85,86,87,88,89,90,91,92,93,94,95,96,97] 99
 (.cons 27
 (K Qk [68,.agg [127,128,129,130,131,132,133,134,135,136,137,138,139,140,141,142,143,144,145,146,147,148,149,150,151,152,153]] 154
 (K Q9 [67,J 1] 155
 (.again 0 0 [155,154])))
 (.cons 1
 (.done (.tup [J 1,127]))
 .nil)))
 (K Q0 [71,J 4] 99
 (.ite 99
 (.callF 33 uz_ [64,71,72,73,74,75,76,77,78,79,80,81,82,83,84,85,86,87,88,89,90,91,92,93,94,95,96,97] 100
 (.cons 27
 (K Qk [68,.agg [128,129,130,131,132,133,134,135,136,137,138,139,140,141,142,143,144,145,146,147,148,149,150,151,152,153,154]] 155
 (K Q9 [67,J 1] 156
 (.again 0 0 [156,155])))
 (.cons 1
 (.done (.tup [J 1,128]))
 .nil)))
 (K Q6 [71,J 2] 100
 (.ite 100
 (K Q6 [71,J 3] 101
 (.ite 101
 (.done (.tup [J 1,J 4]))
 (.callF 35 Q_ [64,82,83,84,85,86,87,88,89,90,91] 102
 (.cons 10
 (K Q6 [114,J 1] 123
 (.ite 123
 (.done (.tup [J 1,J 4]))
 (.callF 18 hc_ [64,92] 124
 (.cons 1
 (.callF 18 hc_ [64,93] 127
 (.cons 1
 (K Qk [68,.agg [71,72,73,74,75,76,77,78,79,80,81,113,114,115,116,117,118,119,120,121,122,126,129,94,95,96,97]] 130
 (K Q9 [67,J 1] 131
 (.again 0 0 [131,130])))
 (.cons 1
 (.done (.tup [J 1,129]))
 .nil)))
 (.cons 1
 (.done (.tup [J 1,126]))
 .nil)))))
 (.cons 1
 (.done (.tup [J 1,113]))
 .nil)))))
 (.callF 35 Q_ [64,82,83,84,85,86,87,88,89,90,91] 101
 (.cons 10
 (K Q6 [113,J 1] 122
 (.ite 122
 (.done (.tup [J 1,J 4]))
 (.callF 18 hc_ [64,92] 123
 (.cons 1
 (.callF 18 hc_ [64,93] 126
 (.cons 1
 (K Qk [68,.agg [71,72,73,74,75,76,77,78,79,80,81,112,113,114,115,116,117,118,119,120,121,125,128,94,95,96,97]] 129
 (K Q9 [67,J 1] 130
 (.again 0 0 [130,129])))
 (.cons 1
 (.done (.tup [J 1,128]))
 .nil)))
 (.cons 1
 (.done (.tup [J 1,125]))
 .nil)))))
 (.cons 1
 (.done (.tup [J 1,112]))
 .nil)))))))))))
 (.done (.tup [J 0,68]))))
 .nil)))
theorem F_ (l:List GS):(XOp.len 25).run Tryz.prog [r_ l]=some (.int .i64 (l.length:Int)):=by rw [L_];exact tL_ Tryz.underlying25 l
theorem mK_ (l:List GS) {i:Nat} (h:i<l.length):(XOp.iaddr 25).run Tryz.prog [r_ l,.int .i64 (i:Int)]=some (.vptr (cd_ z_ (l.drop i))):=by rw [L_];exact lq_ (e:=47) (ti:=(Tryz.prog.info? 47).get!) Tryz.underlying25 (by kernel_rfl) (by kernel_rfl) uJ_ h .i64
theorem ng_ (l:List GS) {i:Nat} (h:i<l.length):(XOp.load 47).run Tryz.prog [.vptr (cd_ z_ (l.drop i))]=some (.agg (z_ l[i])):=
 run_load_agg (ti:=(Tryz.prog.info? 47).get!) Tryz.underlying47 rfl (by kernel_rfl) (by kernel_rfl) uJ_ h
def KS:Nat->GS->Prop
 |0,_=>False
 |d+1,.mk op to e thn els _ kd _ args=>
  (op=1/\KE 6 to/\KE 6 e/\to.kd=e.kd)\/
  (op=4/\6<=kd/\kd<=12/\∃a r,args=a::r/\a.kd=1/\args.length<=2/\∀b∈args,KE 6 b)\/
  ((op=2\/op=3)/\KE 6 e/\e.kd=1/\thn.length<=5/\els.length<=5/\(∀s∈thn,KS d s)/\∀s∈els,KS d s)
def RS' (p:GS->Prop):Nat->List AV->Prop
 |0,ws=>∃y,ws=z_ y/\p y
 |_+1,ws=>∃e:Int,e≠0/\ws=[.int .i64 e]
section
variable {Y:Sy} {L:List (Nat->List AV->Prop)} {hv:List AV} {p:GS->Prop} {y:GS} {e:Int}
theorem en_ (h:ab_ Y.v hv=z_ y) (hp:p y):VOK Tryz.prog (QF (RS' p)) L Y (.done (.tup (.int .i64 0::hv))):=VOK_fin (j:=0) (by rw [h];exact okS y) ⟨y,h,hp⟩
theorem A_ (h:ab_ Y.v hv=[.int .i64 e]) (he:e≠0):VOK Tryz.prog (QF (RS' p)) L Y (.done (.tup (.int .i64 1::hv))):=VOK_fin (j:=1) (by rw [h];rfl) ⟨e,he,h⟩
end
theorem u8_ (x:GS):okL (ADDRS::z_ x)=true:=by rw [aN_];exact okS x
theorem uK_ {nm fd:List UInt8} (h:(nm,fd)∈N_):∃t∈m_,t.nm=nm:=by simp only [N_,List.mem_cons,Prod.mk.injEq,List.not_mem_nil,or_false]at h;rcases h with ⟨rfl,rfl⟩|⟨rfl,rfl⟩|⟨rfl,rfl⟩|⟨rfl,rfl⟩|⟨rfl,rfl⟩|⟨rfl,rfl⟩|⟨rfl,rfl⟩|⟨rfl,rfl⟩|⟨rfl,rfl⟩|⟨rfl,rfl⟩|⟨rfl,rfl⟩;exact ⟨vb,by simp [m_],rfl⟩;exact ⟨vq,by simp [m_],rfl⟩;exact ⟨vtm,by simp [m_],rfl⟩;exact ⟨va,by simp [m_],rfl⟩;exact ⟨vx,by simp [m_],rfl⟩;exact ⟨vo,by simp [m_],rfl⟩;exact ⟨vc,by simp [m_],rfl⟩;exact ⟨vy,by simp [m_],rfl⟩;exact ⟨vtm,by simp [m_],rfl⟩;exact ⟨vw,by simp [m_],rfl⟩;exact ⟨vz,by simp [m_],rfl⟩
theorem vq_ {d:Nat} {op kd:Int} {nm fd:List UInt8} {ad n vk vi:Int} {vf:Nat} {args:List GX} (h:WX d (.mk op kd nm fd ad n vk vi vf args)) (ho:op=2\/op=3):∃t∈m_,t.nm=nm:=by
 cases d with
 |zero=>exact h.elim
 |succ d=>obtain ⟨_,_,⟨_,n2,n3,_⟩,_⟩:=h;rcases ho with ho|ho;exact uK_ (n2 ho);rw [n3 ho];exact ⟨Go.Proofs.YtbjjpimpabbpdaaGreatDoor.vars.vk,by simp [m_],rfl⟩
theorem p32 {d:Nat} {to e:GX} {thn els:List GS} {nm:List UInt8} {kd ad:Int} {args:List GX} (ht:WX 5 to) (ho:to.op=2\/to.op=3) (he:WX 6 e):CF Tryz.prog 32 sB_ (ADDRS::z_ (.mk 1 to e thn els nm kd ad args)) (RS' (KS (d+1))):=by
 have h1:=p35 _ _ ht;have h2:=p35 _ _ he;obtain ⟨z1,z2,z3,z4,z5,z6,z7,z8,z9,z10⟩:=to;obtain ⟨t,hm,rfl⟩:=vq_ ht ho;obtain ⟨e1,e2,e3,e4,e5,e6,e7,e8,e9,e10⟩:=e;have ho:z1=2\/z1=3:=ho;refine uD_ (c:=c32) (n:=300) (t:=t32) mo ov rfl (λY _=>uZ_ _) (by kernel_rfl) λY hf hg=>?_;unfold t32;refine a_ h2 rfl (O_ (.mk e1 e2 e3 e4 e5 e6 e7 e8 e9 e10)) ⟨?_,?_,trivial⟩
 .rintro ws ⟨⟨f1,f2,f3,f4,f5,f6,f7,f8,f9,f10⟩,rfl,hf1⟩
  (refine c_ rfl rfl ?_ ?_<;>intro h<;>simp only [nc]at h<;>try omega)
  ·(refine c_ rfl rfl ?_ ?_<;>intro h<;>simp only [nc]at h<;>try omega)
   (
    refine a_ (p59 t hm) rfl rfl ⟨?_,λws h=>h.elim,trivial⟩;rintro ws rfl;refine uR_ (uM_ ..) rfl (s2_ rfl (λh=>A_ rfl (by decide)) (λh=>?_));refine a_ h1 rfl (O_ (.mk z1 z2 t.nm z4 z5 z6 z7 z8 z9 z10)) ⟨?_,?_,trivial⟩
    .rintro ws ⟨⟨g1,g2,g3,g4,g5,g6,g7,g8,g9,g10⟩,rfl,hg1⟩
     (refine c_ rfl rfl ?_ ?_<;>intro h<;>simp only [nc]at h<;>try omega)
     exact A_ rfl (by decide);obtain ⟨⟨k1,k2,k3,k4,k5,k6,k7,k8,k9,k10⟩,hp,hk1⟩:=p60 _ g2 hf1;refine t8_ hp rfl (T_ _) ?_
     (refine c_ rfl rfl ?_ ?_<;>intro h<;>simp only [nc]at h<;>try omega)
     exact A_ rfl (by decide);exact en_ (y:=.mk 1 (.mk ..) (.mk ..) _ _ _ _ _ _) rfl (.inl ⟨rfl,X_ (by decide) hg1,hk1,h.symm⟩)
    .rintro ws ⟨e,he,rfl⟩;exact A_ rfl he)
  ·(
    refine a_ (p59 t hm) rfl rfl ⟨?_,λws h=>h.elim,trivial⟩;rintro ws rfl;refine uR_ (uM_ ..) rfl (s2_ rfl (λh=>A_ rfl (by decide)) (λh=>?_));refine a_ h1 rfl (O_ (.mk z1 z2 t.nm z4 z5 z6 z7 z8 z9 z10)) ⟨?_,?_,trivial⟩
    .rintro ws ⟨⟨g1,g2,g3,g4,g5,g6,g7,g8,g9,g10⟩,rfl,hg1⟩
     (refine c_ rfl rfl ?_ ?_<;>intro h<;>simp only [nc]at h<;>try omega)
     exact A_ rfl (by decide);obtain ⟨⟨k1,k2,k3,k4,k5,k6,k7,k8,k9,k10⟩,hp,hk1⟩:=p60 _ g2 hf1;refine t8_ hp rfl (T_ _) ?_
     (refine c_ rfl rfl ?_ ?_<;>intro h<;>simp only [nc]at h<;>try omega)
     exact A_ rfl (by decide);exact en_ (y:=.mk 1 (.mk ..) (.mk ..) _ _ _ _ _ _) rfl (.inl ⟨rfl,X_ (by decide) hg1,hk1,h.symm⟩)
    .rintro ws ⟨e,he,rfl⟩;exact A_ rfl he)
 rintro ws ⟨e,he,rfl⟩;exact A_ rfl he
theorem p33 {d:Nat} {to e:GX} {thn els:List GS} {nm:List UInt8} {kd ad:Int} {args:List GX} (hn:nm=[116,109]\/nm=[99]\/nm=[101]) (hA:CF Tryz.prog 62 ft62 [ADDRS,l_ args] (RA 6 args.length)):
  CF Tryz.prog 33 uz_ (ADDRS::z_ (.mk 4 to e thn els nm kd ad args)) (RS' (KS (d+1))):=by
 obtain ⟨z1,z2,z3,z4,z5,z6,z7,z8,z9,z10⟩:=to;obtain ⟨e1,e2,e3,e4,e5,e6,e7,e8,e9,e10⟩:=e;refine uD_ (c:=c33) (n:=300) (t:=t33) mo ov rfl (λY _=>uZ_ _) (by kernel_rfl) λY hf hg=>?_;unfold t33;rcases hn with rfl|rfl|rfl
 ·(refine a_ (p59 vtm (by simp [m_])) rfl rfl ⟨?_,λws h=>h.elim,trivial⟩;rintro ws rfl)
  refine uR_ rfl rfl (uR_ rfl rfl (uB_ rfl (λh=>by cases h) (λ_=>?_)));refine a_ hA rfl (nQ_ _) ⟨?_,?_,trivial⟩
  .rintro ws ⟨l,rfl,hl,hk⟩;repeat (refine uR_ rfl rfl (uB_ rfl (λh=>absurd h (by decide)) (λ_=>?_)))
   refine uR_ rfl rfl (uB_ rfl (λ_=>?_) (λh=>absurd h (by decide)))
   (
    refine uR_ (f_ l) rfl ?_
    (refine c_ rfl rfl ?_ ?_<;>intro h<;>simp only [nc]at h<;>try omega)
    exact A_ rfl (by decide);obtain ⟨y,z,rfl⟩:=M_ rfl h;obtain ⟨y1,hp1,hy1⟩:=p60 y 1 (hk _ (List.mem_cons_self ..));obtain ⟨z1,hp2,hz1⟩:=p60 z 4 (hk _ (List.mem_cons_of_mem _ (List.mem_singleton.2 rfl)));obtain ⟨yo,yk,ynm,yfd,yad,yn,yvk,yvi,yvf,ya⟩:=y;obtain ⟨yo1,yk1,ynm1,yfd1,yad1,yn1,yvk1,yvi1,yvf1,ya1⟩:=y1;obtain ⟨zo,zk,znm,zfd,zad,zn,zvk,zvi,zvf,za⟩:=z;obtain ⟨zo1,zk1,znm1,zfd1,zad1,zn1,zvk1,zvi1,zvf1,za1⟩:=z1;refine uR_ (r:=.int .i64 0) rfl rfl (uC_ (cs:=d_ (.mk yo yk ynm yfd yad yn yvk yvi yvf ya)) rfl rfl (G_ _) ?_);refine t8_ hp1 rfl (T_ _) ?_;refine uR_ (r:=.int .i64 0) rfl rfl (uR_ (r:=l_ [.mk yo1 yk1 ynm1 yfd1 yad1 yn1 yvk1 yvi1 yvf1 ya1,.mk zo zk znm zfd zad zn zvk zvi zvf za]) (B_ [(.mk yo yk ynm yfd yad yn yvk yvi yvf ya),(.mk zo zk znm zfd zad zn zvk zvi zvf za)] (i:=0) (by simp) (.mk yo1 yk1 ynm1 yfd1 yad1 yn1 yvk1 yvi1 yvf1 ya1) .i64) (okA _) (uR_ (r:=.int .i64 0) rfl rfl (uR_ (r:=.int .i64 yk1) rfl rfl ?_)))
    (refine c_ rfl rfl ?_ ?_<;>intro h<;>simp only [nc]at h<;>try omega)
    exact A_ rfl (by decide);have hy2:=h;refine uR_ (r:=.int .i64 1) rfl rfl (uC_ (cs:=d_ (.mk zo zk znm zfd zad zn zvk zvi zvf za)) rfl rfl (G_ _) ?_);refine t8_ hp2 rfl (T_ _) ?_;refine uR_ (r:=.int .i64 1) rfl rfl (uR_ (r:=l_ [.mk yo1 yk1 ynm1 yfd1 yad1 yn1 yvk1 yvi1 yvf1 ya1,.mk zo1 zk1 znm1 zfd1 zad1 zn1 zvk1 zvi1 zvf1 za1]) (B_ [(.mk yo1 yk1 ynm1 yfd1 yad1 yn1 yvk1 yvi1 yvf1 ya1),(.mk zo zk znm zfd zad zn zvk zvi zvf za)] (i:=1) (by simp) (.mk zo1 zk1 znm1 zfd1 zad1 zn1 zvk1 zvi1 zvf1 za1) .i64) (okA _) (uR_ (r:=.int .i64 1) rfl rfl (uR_ (r:=.int .i64 zk1) rfl rfl ?_)))
    (refine c_ rfl rfl ?_ ?_<;>intro h<;>simp only [nc]at h<;>try omega)
    exact A_ rfl (by decide);refine uA_ (.inr ⟨_,_,_,_,rfl,rfl⟩) ?_
    exact en_ (y:=.mk 4 (.mk ..) (.mk ..) _ _ _ _ _ [.mk ..,.mk ..]) rfl (.inr (.inl ⟨rfl,by decide,by decide,_,_,rfl,hy2,by simp,λb hb=>by
     rcases List.mem_cons.1 hb with rfl|hb;exact hy1
     .cases List.mem_singleton.1 hb;exact hz1⟩)))
  rintro ws ⟨e,he,rfl⟩;exact A_ rfl he
 ·(refine a_ (p59 vc (by simp [m_])) rfl rfl ⟨?_,λws h=>h.elim,trivial⟩;rintro ws rfl)
  refine uR_ rfl rfl (uR_ rfl rfl (uB_ rfl (λh=>by cases h) (λ_=>?_)));refine a_ hA rfl (nQ_ _) ⟨?_,?_,trivial⟩
  .rintro ws ⟨l,rfl,hl,hk⟩;repeat (refine uR_ rfl rfl (uB_ rfl (λh=>absurd h (by decide)) (λ_=>?_)))
   refine uR_ rfl rfl (uB_ rfl (λ_=>?_) (λh=>absurd h (by decide)))
   (
    refine uR_ (f_ l) rfl ?_
    (refine c_ rfl rfl ?_ ?_<;>intro h<;>simp only [nc]at h<;>try omega)
    exact A_ rfl (by decide);obtain ⟨y,z,rfl⟩:=M_ rfl h;obtain ⟨y1,hp1,hy1⟩:=p60 y 1 (hk _ (List.mem_cons_self ..));obtain ⟨z1,hp2,hz1⟩:=p60 z 2 (hk _ (List.mem_cons_of_mem _ (List.mem_singleton.2 rfl)));obtain ⟨yo,yk,ynm,yfd,yad,yn,yvk,yvi,yvf,ya⟩:=y;obtain ⟨yo1,yk1,ynm1,yfd1,yad1,yn1,yvk1,yvi1,yvf1,ya1⟩:=y1;obtain ⟨zo,zk,znm,zfd,zad,zn,zvk,zvi,zvf,za⟩:=z;obtain ⟨zo1,zk1,znm1,zfd1,zad1,zn1,zvk1,zvi1,zvf1,za1⟩:=z1;refine uR_ (r:=.int .i64 0) rfl rfl (uC_ (cs:=d_ (.mk yo yk ynm yfd yad yn yvk yvi yvf ya)) rfl rfl (G_ _) ?_);refine t8_ hp1 rfl (T_ _) ?_;refine uR_ (r:=.int .i64 0) rfl rfl (uR_ (r:=l_ [.mk yo1 yk1 ynm1 yfd1 yad1 yn1 yvk1 yvi1 yvf1 ya1,.mk zo zk znm zfd zad zn zvk zvi zvf za]) (B_ [(.mk yo yk ynm yfd yad yn yvk yvi yvf ya),(.mk zo zk znm zfd zad zn zvk zvi zvf za)] (i:=0) (by simp) (.mk yo1 yk1 ynm1 yfd1 yad1 yn1 yvk1 yvi1 yvf1 ya1) .i64) (okA _) (uR_ (r:=.int .i64 0) rfl rfl (uR_ (r:=.int .i64 yk1) rfl rfl ?_)))
    (refine c_ rfl rfl ?_ ?_<;>intro h<;>simp only [nc]at h<;>try omega)
    exact A_ rfl (by decide);have hy2:=h;refine uR_ (r:=.int .i64 1) rfl rfl (uC_ (cs:=d_ (.mk zo zk znm zfd zad zn zvk zvi zvf za)) rfl rfl (G_ _) ?_);refine t8_ hp2 rfl (T_ _) ?_;refine uR_ (r:=.int .i64 1) rfl rfl (uR_ (r:=l_ [.mk yo1 yk1 ynm1 yfd1 yad1 yn1 yvk1 yvi1 yvf1 ya1,.mk zo1 zk1 znm1 zfd1 zad1 zn1 zvk1 zvi1 zvf1 za1]) (B_ [(.mk yo1 yk1 ynm1 yfd1 yad1 yn1 yvk1 yvi1 yvf1 ya1),(.mk zo zk znm zfd zad zn zvk zvi zvf za)] (i:=1) (by simp) (.mk zo1 zk1 znm1 zfd1 zad1 zn1 zvk1 zvi1 zvf1 za1) .i64) (okA _) (uR_ (r:=.int .i64 1) rfl rfl (uR_ (r:=.int .i64 zk1) rfl rfl ?_)))
    (refine c_ rfl rfl ?_ ?_<;>intro h<;>simp only [nc]at h<;>try omega)
    exact A_ rfl (by decide);refine uA_ (.inr ⟨_,_,_,_,rfl,rfl⟩) ?_
    exact en_ (y:=.mk 4 (.mk ..) (.mk ..) _ _ _ _ _ [.mk ..,.mk ..]) rfl (.inr (.inl ⟨rfl,by decide,by decide,_,_,rfl,hy2,by simp,λb hb=>by
     rcases List.mem_cons.1 hb with rfl|hb;exact hy1
     .cases List.mem_singleton.1 hb;exact hz1⟩)))
  rintro ws ⟨e,he,rfl⟩;exact A_ rfl he
 ·(refine a_ (p59 ve (by simp [m_])) rfl rfl ⟨?_,λws h=>h.elim,trivial⟩;rintro ws rfl)
  refine uR_ rfl rfl (uR_ rfl rfl (uB_ rfl (λh=>by cases h) (λ_=>?_)));refine a_ hA rfl (nQ_ _) ⟨?_,?_,trivial⟩
  .rintro ws ⟨l,rfl,hl,hk⟩;repeat (refine uR_ rfl rfl (uB_ rfl (λh=>absurd h (by decide)) (λ_=>?_)))
   refine uR_ (f_ l) rfl ?_
   (refine c_ rfl rfl ?_ ?_<;>intro h<;>simp only [nc]at h<;>try omega)
   exact A_ rfl (by decide);obtain ⟨y,rfl⟩:=ak_ rfl h;have hy:=hk _ (List.mem_singleton.2 rfl);obtain ⟨y1,hp1,hy1⟩:=p60 y 1 hy;obtain ⟨yo,yk,ynm,yfd,yad,yn,yvk,yvi,yvf,ya⟩:=y;obtain ⟨yo1,yk1,ynm1,yfd1,yad1,yn1,yvk1,yvi1,yvf1,ya1⟩:=y1;refine uR_ (r:=.int .i64 0) rfl rfl (uC_ (cs:=d_ (.mk yo yk ynm yfd yad yn yvk yvi yvf ya)) rfl rfl (G_ _) ?_);refine t8_ hp1 rfl (T_ _) ?_;refine uR_ (r:=.int .i64 0) rfl rfl (uR_ (r:=l_ [.mk yo1 yk1 ynm1 yfd1 yad1 yn1 yvk1 yvi1 yvf1 ya1]) (B_ [(.mk yo yk ynm yfd yad yn yvk yvi yvf ya)] (i:=0) (by simp) (.mk yo1 yk1 ynm1 yfd1 yad1 yn1 yvk1 yvi1 yvf1 ya1) .i64) (okA _) (uR_ (r:=.int .i64 0) rfl rfl (uR_ (r:=.int .i64 yk1) rfl rfl ?_)))
   (refine c_ rfl rfl ?_ ?_<;>intro h<;>simp only [nc]at h<;>try omega)
   exact A_ rfl (by decide);refine uA_ (.inr ⟨_,_,_,_,rfl,rfl⟩) ?_;exact en_ (y:=.mk 4 (.mk ..) (.mk ..) _ _ _ _ _ [.mk ..]) rfl (.inr (.inl ⟨rfl,by decide,by decide,_,_,rfl,h,by simp,λb hb=>by cases List.mem_singleton.1 hb;exact hy1⟩))
  rintro ws ⟨e,he,rfl⟩;exact A_ rfl he
def RL' (p:GS->Prop) (n:Nat):Nat->List AV->Prop
 |0,ws=>∃b:List GS,ws=[r_ b]/\b.length=n/\∀s∈b,p s
 |_+1,ws=>∃e:Int,e≠0/\ws=[.int .i64 e]
def PB' (d:Nat):Prop:=∀l:List GS,l.length<=5->(∀s∈l,WS d s)->CF Tryz.prog 18 hc_ [ADDRS,r_ l] (RL' (KS d) l.length)
theorem q9_ (l:List GS):okL [ADDRS,r_ l]=true:=by simp only [okL,okC,okB];rfl
theorem vd_ (d:Nat) (ih:∀d',d=d'+1->PB' d'):PB' d:=by
 intro l hl hw;refine uD_ (c:=c18) (n:=300) (t:=t18) mo ov rfl (λY _=>uZ_ _) (by kernel_rfl) λY hf hg=>?_;unfold t18;refine uR_ (F_ l) rfl ?_;refine ua_ (ι:=List GS×Nat) (λs=>[.int .i64 (s.2:Int),r_ s.1]) (λs=>s.1.length=s.2/\s.2<=l.length/\∀a∈s.1,KS d a) (λs=>l.length-s.2) ([],0) ⟨rfl,Nat.zero_le _,λa ha=>(List.not_mem_nil ha).elim⟩ rfl (λs _=>by simp only [okL,okC,okB]) (λs s' _ _ h=>by simp at h;omega) (λs hs=>?_);obtain ⟨acc,i⟩:=s;obtain ⟨h1,h2,h3⟩:=hs;simp only at h1 h2 h3⊢
 (refine c_ rfl rfl ?_ ?_<;>intro h<;>simp only [nc]at h<;>try omega)
 .have hi:i<l.length:=(by omega);have hld:=ng_ l hi;have hz:=hw l[i] (List.getElem_mem hi);rcases hzz:l[i]with ⟨op,to,e,thn,els,nm,kd,ad,args⟩;rw [hzz]at hld hz;obtain ⟨d',rfl⟩:∃d',d=d'+1:=(by cases d with|zero=>exact hz.elim|succ d=>exact ⟨d,rfl⟩);have ih:=ih d' rfl;have h32:∀(hop:op=1),WX 5 to->(to.op=2\/to.op=3)->WX 6 e->_:=λ_ a b c=>p32 (d:=d') (thn:=thn) (els:=els) (nm:=nm) (kd:=kd) (ad:=ad) (args:=args) a b c;have h33:∀(hn:nm=[116,109]\/nm=[99]\/nm=[101]),args.length<=2->(∀a∈args,WX 5 a)->_:=λhn ha hw=>p33 (d:=d') (to:=to) (e:=e) (thn:=thn) (els:=els) (kd:=kd) (ad:=ad) hn (p62 args (by omega) (λa h=>p35 6 a (b_ (by decide) (hw a h))));have h35:WX 5 e->_:=λh=>p35 6 e (b_ (by decide) h);obtain ⟨t1,t2,t3,t4,t5,t6,t7,t8,t9,t10⟩:=to;obtain ⟨e1,e2,e3,e4,e5,e6,e7,e8,e9,e10⟩:=e;refine uR_ (mK_ l hi) (ot_ okS _) (uC_ hld rfl (okS _) ?_);rcases hz with ⟨rfl,a1,a2,a3,a4⟩|⟨ho,b1,b2,b3,b4,b5⟩|⟨rfl,a1,a2,a3,a4⟩
  ·(refine c_ rfl rfl ?_ ?_<;>intro h<;>simp only [nc]at h<;>try omega)
   refine a_ (h32 rfl a1 a2 a3) rfl (u8_ (.mk _ (.mk ..) (.mk ..) _ _ _ _ _ _)) ⟨?_,?_,trivial⟩
   ·(
     rintro ws ⟨⟨op',⟨so1,so2,so3,so4,so5,so6,so7,so8,so9,so10⟩,⟨f1,f2,f3,f4,f5,f6,f7,f8,f9,f10⟩,thn',els',nm',kd',ad',args'⟩,rfl,hy⟩
     (
      refine uR_ (q_ acc (.mk op' (.mk so1 so2 so3 so4 so5 so6 so7 so8 so9 so10) (.mk f1 f2 f3 f4 f5 f6 f7 f8 f9 f10) thn' els' nm' kd' ad' args') (by omega)) (okB _) (uR_ (o_ (by omega) (by omega)) rfl (tZ_ rfl ⟨(acc++[_],i+1),⟨by simp;omega,hi,?_⟩,rfl,by simp only;omega⟩));intro a ha;rcases List.mem_append.1 ha with ha|ha;exact h3 a ha
      .cases List.mem_singleton.1 ha;exact hy))
   rintro ws ⟨e,he,rfl⟩;exact VOK_fin (j:=1) rfl ⟨e,he,rfl⟩
  ·(refine c_ rfl rfl ?_ ?_<;>intro h<;>simp only [nc]at h<;>try omega);(refine c_ rfl rfl ?_ ?_<;>intro h<;>simp only [nc]at h<;>try omega)
   have fin:∀{f:GX} {thn' els':List GS} {nm':List UInt8} {kd' ad':Int} {args':List GX} {t':GX},KE 6 f->f.kd=1->thn'.length=thn.length->els'.length=els.length->(∀s∈thn',KS d' s)->(∀s∈els',KS d' s)->KS (d'+1) (.mk op t' f thn' els' nm' kd' ad' args'):=λq1 q2 q3 q4 q5 q6=>.inr (.inr ⟨ho,q1,q2,by omega,by omega,q5,q6⟩)
   (refine c_ rfl rfl ?_ ?_<;>intro h<;>simp only [nc]at h<;>try omega)
   ·(refine c_ rfl rfl ?_ ?_<;>intro h<;>simp only [nc]at h<;>try omega)
    (
     refine a_ (h35 b1) rfl (O_ (.mk ..)) ⟨?_,?_,trivial⟩
     .rintro ws ⟨⟨f1,f2,f3,f4,f5,f6,f7,f8,f9,f10⟩,rfl,hf1⟩
      (refine c_ rfl rfl ?_ ?_<;>intro h<;>simp only [nc]at h<;>try omega)
      exact VOK_fin (j:=1) rfl ⟨4,by decide,rfl⟩;have hf2:=h;refine a_ (ih thn b2 b4) rfl (q9_ _) ⟨?_,?_,trivial⟩
      .rintro ws ⟨thn',rfl,hq1,hq2⟩;refine a_ (ih els b3 b5) rfl (q9_ _) ⟨?_,?_,trivial⟩
       .rintro ws ⟨els',rfl,hq3,hq4⟩;have hy:=fin (nm':=nm) (kd':=kd) (ad':=ad) (args':=args) (t':=.mk t1 t2 t3 t4 t5 t6 t7 t8 t9 t10) hf1 hf2 hq1 hq3 hq2 hq4
        (
         refine uR_ (q_ acc (.mk op (.mk t1 t2 t3 t4 t5 t6 t7 t8 t9 t10) (.mk f1 f2 f3 f4 f5 f6 f7 f8 f9 f10) thn' els' nm kd ad args) (by omega)) (okB _) (uR_ (o_ (by omega) (by omega)) rfl (tZ_ rfl ⟨(acc++[_],i+1),⟨by simp;omega,hi,?_⟩,rfl,by simp only;omega⟩));intro a ha;rcases List.mem_append.1 ha with ha|ha;exact h3 a ha
         .cases List.mem_singleton.1 ha;exact hy)
       rintro ws ⟨e,he,rfl⟩;exact VOK_fin (j:=1) rfl ⟨e,he,rfl⟩
      rintro ws ⟨e,he,rfl⟩;exact VOK_fin (j:=1) rfl ⟨e,he,rfl⟩
     .rintro ws ⟨e,he,rfl⟩;exact VOK_fin (j:=1) rfl ⟨e,he,rfl⟩)
   ·(
     refine a_ (h35 b1) rfl (O_ (.mk ..)) ⟨?_,?_,trivial⟩
     .rintro ws ⟨⟨f1,f2,f3,f4,f5,f6,f7,f8,f9,f10⟩,rfl,hf1⟩
      (refine c_ rfl rfl ?_ ?_<;>intro h<;>simp only [nc]at h<;>try omega)
      exact VOK_fin (j:=1) rfl ⟨4,by decide,rfl⟩;have hf2:=h;refine a_ (ih thn b2 b4) rfl (q9_ _) ⟨?_,?_,trivial⟩
      .rintro ws ⟨thn',rfl,hq1,hq2⟩;refine a_ (ih els b3 b5) rfl (q9_ _) ⟨?_,?_,trivial⟩
       .rintro ws ⟨els',rfl,hq3,hq4⟩;have hy:=fin (nm':=nm) (kd':=kd) (ad':=ad) (args':=args) (t':=.mk t1 t2 t3 t4 t5 t6 t7 t8 t9 t10) hf1 hf2 hq1 hq3 hq2 hq4
        (
         refine uR_ (q_ acc (.mk op (.mk t1 t2 t3 t4 t5 t6 t7 t8 t9 t10) (.mk f1 f2 f3 f4 f5 f6 f7 f8 f9 f10) thn' els' nm kd ad args) (by omega)) (okB _) (uR_ (o_ (by omega) (by omega)) rfl (tZ_ rfl ⟨(acc++[_],i+1),⟨by simp;omega,hi,?_⟩,rfl,by simp only;omega⟩));intro a ha;rcases List.mem_append.1 ha with ha|ha;exact h3 a ha
         .cases List.mem_singleton.1 ha;exact hy)
       rintro ws ⟨e,he,rfl⟩;exact VOK_fin (j:=1) rfl ⟨e,he,rfl⟩
      rintro ws ⟨e,he,rfl⟩;exact VOK_fin (j:=1) rfl ⟨e,he,rfl⟩
     .rintro ws ⟨e,he,rfl⟩;exact VOK_fin (j:=1) rfl ⟨e,he,rfl⟩)
  ·(refine c_ rfl rfl ?_ ?_<;>intro h<;>simp only [nc]at h<;>try omega);(refine c_ rfl rfl ?_ ?_<;>intro h<;>simp only [nc]at h<;>try omega)
   refine a_ (h33 a1 a2 a3) rfl (u8_ (.mk _ (.mk ..) (.mk ..) _ _ _ _ _ _)) ⟨?_,?_,trivial⟩
   ·(
     rintro ws ⟨⟨op',⟨so1,so2,so3,so4,so5,so6,so7,so8,so9,so10⟩,⟨f1,f2,f3,f4,f5,f6,f7,f8,f9,f10⟩,thn',els',nm',kd',ad',args'⟩,rfl,hy⟩
     (
      refine uR_ (q_ acc (.mk op' (.mk so1 so2 so3 so4 so5 so6 so7 so8 so9 so10) (.mk f1 f2 f3 f4 f5 f6 f7 f8 f9 f10) thn' els' nm' kd' ad' args') (by omega)) (okB _) (uR_ (o_ (by omega) (by omega)) rfl (tZ_ rfl ⟨(acc++[_],i+1),⟨by simp;omega,hi,?_⟩,rfl,by simp only;omega⟩));intro a ha;rcases List.mem_append.1 ha with ha|ha;exact h3 a ha
      .cases List.mem_singleton.1 ha;exact hy))
   rintro ws ⟨e,he,rfl⟩;exact VOK_fin (j:=1) rfl ⟨e,he,rfl⟩
 exact VOK_fin (j:=0) (by show okL [r_ acc]=true;simp only [okL,okB]) ⟨acc,rfl,by omega,h3⟩
theorem p18:∀d,PB' d
 |0=>vd_ 0 (λd' e=>absurd e (by omega))
 |d+1=>vd_ (d+1) (λd' e=>by cases e;exact p18 d)
end Go.Proofs.YtbjjpimpabbpdaaGreatDoor.vars
set_option maxRecDepth 100000
set_option linter.unusedVariables false
set_option linter.unusedSimpArgs false
namespace Go.Proofs.YtbjjpimpabbpdaaGreatDoor.vars
open Go Go.Sx
theorem pu_ {α:Type} {enc:α->List AV} {p:List AV->Prop} {q:α->Prop} (h:∀r,p r->∃a,r=enc a/\q a):∀rows:List (List AV),(∀r,r∈rows->p r)->∃l:List α,rows.flatten=cd_ enc l/\l.length=rows.length/\∀a,a∈l->q a
 |[],_=>⟨[],rfl,rfl,λa h=>by cases h⟩
 |r::rows,hr=>by obtain ⟨a,rfl,ha⟩:=h r (hr r (List.mem_cons_self ..));obtain ⟨l,h1,h2,h3⟩:=pu_ h rows λr h=>hr r (List.mem_cons_of_mem _ h);refine ⟨a::l,by rw [List.flatten_cons,h1];rfl,by simp [h2],λb hb=>?_⟩;rcases List.mem_cons.1 hb with rfl|hb;exact ha;exact h3 b hb
theorem ut_ {r:List AV} (h:Sx.Fit Tryz.prog 5 r):∃c:UInt8,r=K_ c/\True:=by
 obtain ⟨n,rfl,hn⟩:=s4_ Tryz.underlying5 h;have hn:0<=n/\n<=255:=by simpa [Lit.wf,IntKind.min,IntKind.max,IntKind.bits,IntKind.signed]using hn
 refine ⟨n.toNat.toUInt8,?_,trivial⟩;have:((n.toNat.toUInt8).toNat:Int)=n:=by have h1:n.toNat.toUInt8.toNat=n.toNat:=(by simp only [Nat.toUInt8,UInt8.toNat_ofNat'];omega);rw [h1];omega
 unfold K_;rw [this]
theorem arg_u8s {H:Type} {enc:TypeId×Value->H} {W:World} {base:Nat} {v:Value} {dd:DataW H} {p ps:List MemPlace} (hok:Value.okWide Tryz.prog W .any base 22 v)
  (h:DataW.Trod enc Tryz.prog W 0 (λ_=>true) true 22 v dd p) (hps:∀q,q∈p->q∈ps):∃(l:List UInt8) (a:AV),SlV K_ 1 l a/\True/\l.length<=maxLen/\Con (jX_ (k8_ W ps)) a v:=by
 rcases t1_ (d:=5) Tryz.underlying22 (by kernel_rfl) hok h hps with rfl|⟨rows,h1,h2,h3,h4⟩;exact ⟨[],.nsl,.inr ⟨rfl,rfl⟩,trivial,Nat.zero_le _,by simp only [Con]⟩;obtain ⟨l,k1,k2,k3⟩:=pu_ (enc:=K_) (q:=λ_=>True) (λr hr=>ut_ hr) rows h1;have hc:Tryz.prog.cellsOf 5=1:=(by kernel_rfl);refine ⟨l,rW_ K_ 1 l,.inl rfl,trivial,by omega,?_⟩;have h4':=h4;rw [k1,hc,←k2]at h4';exact h4'
end Go.Proofs.YtbjjpimpabbpdaaGreatDoor.vars
set_option maxRecDepth 100000
set_option linter.unusedVariables false
set_option linter.unusedSimpArgs false
namespace Go.Proofs.YtbjjpimpabbpdaaGreatDoor.vars
open Go Go.Sx
def c20:VC:=⟨⟨[],[]⟩,[(20,[none])],[(0,[⟨[(3,.slx 0 0 0),(1,.ptr 0 0)],[(0,[64,65,66,67,68,69,70,71,72,73])],1,1,[],[],[]⟩])],0,true,[]⟩
def t20:VT:=
 (.loop 74 0 [J 0]
 (.cons 1
 (K Q5 [73] 75
 (K Qm [74,75] 76
 (.ite 76
 (K Qf [73,74] 77
 (.lt Qi [77] 78 (some 10)
 (.call 20 [.agg [78,79,80,81,82,83,84,85,86,87]] 88 [none]
 (K Q4 [88] 89
 (.ite 89
 (.done (.bool false))
 (K Q9 [74,J 1] 90
 (.again 0 0 [90])))))))
 (K Q5 [73] 77
 (K Q0 [77,J 2] 78
 (.ite 78
 (K Qf [73,J 0] 79
 (K Qs [79] 80
 (K Q7 [80] 81
 (K Qf [73,J 1] 82
 (K Qs [82] 83
 (K Q7 [83] 84
 (K Q2 [81,84] 85
 (.ite 85
 (.done (.bool false))
 (K Qa [65,J 1] 86
 (.ite 86
 (K Qg [65,J 5] 87
 (.ite 87
 (K Q6 [64,J 1] 88
 (.ite 88
 (.done (.bool true))
 (K Qt [70,65] 89
 (.done (89)))))
 (.done (.bool false))))
 (.done (.bool false))))))))))))
 (K Qa [65,J 1] 79
 (.ite 79
 (K Qg [65,J 5] 80
 (.ite 80
 (K Q6 [64,J 1] 81
 (.ite 81
 (.done (.bool true))
 (K Qt [70,65] 82
 (.done (82)))))
 (.done (.bool false))))
 (.done (.bool false))))))))))
 .nil))
def c9:VC:=⟨⟨[],[]⟩,[(9,[none]),(20,[none])],[(0,[⟨[(3,.slx 0 0 0),(0,64)],[],0,1,[],[],[]⟩]),(3,[⟨[(5,.slx 0 0 0),(4,.ptr 0 0),(3,65),(0,64)],[(0,[69,70,71,72,73,74,75,76,77,78,79,80,81,82,83,84,85,86,87,88,89,90,91,92,93,94,95])],1,1,[],[],[]⟩])],0,true,[]⟩
def t9:VT:=
 (.loop 65 0 [J 0]
 (.cons 1
 (K Qn [64] 66
 (K Qm [65,66] 67
 (.ite 67
 (K (.iaddr 25) [64,65] 68
 (.lt (.load 47) [68] 69 (some 27)
 (K Q0 [69,J 1] 96
 (.ite 96
 (.call 20 [.agg [70,71,72,73,74,75,76,77,78,79]] 97 [none]
 (K Q4 [97] 98
 (.ite 98
 (.done (.bool false))
 (.call 20 [.agg [80,81,82,83,84,85,86,87,88,89]] 99 [none]
 (K Q4 [99] 100
 (.ite 100
 (.done (.bool false))
 (K Q2 [71,81] 101
 (.ite 101
 (.done (.bool false))
 (K Q9 [65,J 1] 102
 (.again 0 0 [102]))))))))))
 (K Q0 [69,J 4] 97
 (.ite 97
 (K Qj [93,J 6] 98
 (.ite 98
 (.done (.bool false))
 (K Qh [93,J 12] 99
 (.ite 99
 (.done (.bool false))
 (K Q5 [95] 100
 (K Qj [100,J 1] 101
 (.ite 101
 (.done (.bool false))
 (K Qf [95,J 0] 102
 (K Qs [102] 103
 (K Q7 [103] 104
 (K Q6 [104,J 1] 105
 (.ite 105
 (.done (.bool false))
 (.loop 106 0 [J 0]
 (.cons 1
 (K Q5 [95] 107
 (K Qm [106,107] 108
 (.ite 108
 (K Qf [95,106] 109
 (.lt Qi [109] 110 (some 10)
 (.call 20 [.agg [110,111,112,113,114,115,116,117,118,119]] 120 [none]
 (K Q4 [120] 121
 (.ite 121
 (.done (.bool false))
 (K Q9 [106,J 1] 122
 (.again 1 0 [122])))))))
 (K Q9 [65,J 1] 109
 (.again 0 0 [109])))))
 .nil))))))))))))))
 (.call 20 [.agg [80,81,82,83,84,85,86,87,88,89]] 98 [none]
 (K Q4 [98] 99
 (.ite 99
 (.done (.bool false))
 (K Q6 [81,J 1] 100
 (.ite 100
 (.done (.bool false))
 (.call 9 [90] 101 [none]
 (K Q4 [101] 102
 (.ite 102
 (.done (.bool false))
 (.call 9 [91] 103 [none]
 (K Q4 [103] 104
 (.ite 104
 (.done (.bool false))
 (K Q9 [65,J 1] 105
 (.again 0 0 [105])))))))))))))))))))
 (.done (.bool true)))))
 .nil))
def c7:VC:=⟨⟨[],[]⟩,[(15,[none]),(16,[none,none]),(17,[none])],[],0,true,[(18,hc_)]⟩
def t7:VT:=
 (.call 15 [VARS] 65 [none]
 (K Qx [65,J 0] 66
 (.ite 66
 (.done (.tup [J 0,.nsl,.nsl,65]))
 (.call 16 [VARS] 67 [none,none]
 (.call 17 [VARS] 69 [none]
 (.callF 18 hc_ [67,64] 70
 (.cons 1
 (.done (.tup [J 0,69,72,J 0]))
 (.cons 1
 (.done (.tup [J 0,.nsl,.nsl,72]))
 .nil))))))))
def c3:VC:=⟨⟨[],[]⟩,[(4,[none]),(8,[none]),(9,[none])],[],0,true,[(5,ft5),(6,ft6),(7,ft7)]⟩
def t3:VT:=
 (.call 4 [] 65 [none]
 (K Q4 [65] 66
 (.ite 66
 (.done (.bool false))
 (K (.len 22) [64] 67
 (K Qh [67,J 200] 68
 (.ite 68
 (.done (.bool true))
 (.callF 5 ft5 [64] 69
 (.cons 0
 (.callF 6 ft6 [64,J 0] 70
 (.cons 2
 (.callF 7 ft7 [72] 74
 (.cons 3
 (K Qx [77,J 0] 78
 (.ite 78
 (K Qn [76] 79
 (K (.len 24) [75] 80
 (K (.bin .add 3 false false) [79,80] 81
 (K Q0 [81,J 0] 82
 (.done (82))))))
 (.call 8 [VARS,75] 79 [none]
 (.ite 79
 (K Qn [76] 80
 (K Qn [72] 81
 (K Qt [80,81] 82
 (.ite 82
 (.call 9 [76] 83 [none]
 (.done (83)))
 (.done (.bool false))))))
 (.done (.bool false))))))
 .nil))
 .nil))
 .nil))))))))
theorem eb4: @uk_ gI Tryz.prog 3000 4 [] (.bool true)=true:=by kernel_rfl
theorem k4:kD_ Tryz.prog 4 [] (.bool true):= @uG_ gI Tryz.prog mo ov 3000 4 [] (.bool true) eb4
theorem k15:kD_ Tryz.prog 15 [VARS] (.int .i64 0):=uG_ mo ov (n:=3000) (by kernel_rfl)
theorem k16:kD_ Tryz.prog 16 [VARS] (.tup [ADDRS,.int .i64 21]):=uG_ mo ov (n:=3000) (by kernel_rfl)
theorem k17:kD_ Tryz.prog 17 [VARS] VARS:=uG_ mo ov (n:=3000) (by kernel_rfl)
theorem k8:kD_ Tryz.prog 8 [VARS,VARS] (.bool true):=uG_ mo ov (n:=3000) (by kernel_rfl)
theorem p20:∀(d:Nat) (x:GX),KE d x->kD_ Tryz.prog 20 [.agg (d_ x)] (.bool true)
 |0,_,h=>h.elim
 |d+1,.mk op kd nm fd ad n vk vi vf args,hx=>by
  obtain ⟨h1,h2,h3,h4,h6,h5⟩:=hx;have ih:=λ(z:GX) (hz:z∈args)=>p20 d z (h5 z hz);refine tG_ (sh:=[some 10]) (ls:=d_ (.mk op kd nm fd ad n vk vi vf args)++[]) (c:=c20) (n:=300) (t:=t20) mo ov rfl (T_ _) rfl (λY _=>uZ_ _) rfl (by kernel_rfl) λY hf hg=>?_;unfold t20;refine ua_ (ι:=Nat) (λi=>[.int .i64 (i:Int)]) (λi=>i<=args.length) (λi=>args.length-i) 0 (Nat.zero_le _) rfl (λ_ _=>rfl) (λi j _ _ h=>by simp at h;omega) (λi hs=>?_);refine uR_ (f_ args) rfl ?_
  (refine c_ rfl rfl ?_ ?_<;>intro h<;>simp only [nc]at h<;>try omega)
  have hi:i<args.length:=(by omega);have hld:=H_ args hi;have hz:=ih args[i] (List.getElem_mem hi);rcases hzz:args[i]with ⟨zo,zk,znm,zfd,zad,zn,zvk,zvi,zvf,za⟩;rw [hzz]at hld hz;refine uR_ (C_ args hi) (ot_ G_ _) (uC_ hld rfl (G_ _) ?_);refine t8_ hz rfl rfl (uR_ (uN_ ..) rfl (uB_ rfl (λh=>by cases h) (λ_=>?_)));exact uR_ (o_ (by omega) (by omega)) rfl (tZ_ rfl ⟨i+1,hi,rfl,by omega⟩)
  .refine uR_ (f_ args) rfl ?_
   (refine c_ rfl rfl ?_ ?_<;>intro h<;>simp only [nc]at h<;>try omega)
   .obtain ⟨⟨yo,yk,ynm,yfd,yad,yn,yvk,yvi,yvf,ya⟩,⟨zo,zk,znm,zfd,zad,zn,zvk,zvi,zvf,za⟩,rfl⟩:=M_ rfl h;have hk:yk=zk:=h4 _ _ rfl;refine uR_ (r:=.vptr (cd_ d_ [.mk yo yk ynm yfd yad yn yvk yvi yvf ya,.mk zo zk znm zfd zad zn zvk zvi zvf za])) rfl (ot_ G_ _) ?_;refine uR_ (r:=.vptr ([.int .i64 yk,.str ynm,.str yfd,.int .i64 yad,.int .i64 yn,.int .i64 yvk,.int .i64 yvi,.flt .f64 yvf,l_ ya]++cd_ d_ [.mk zo zk znm zfd zad zn zvk zvi zvf za])) rfl (ot_.okL_join (by simp only [okL,okC,okA]) (ot_ G_ _)) ?_;refine uR_ (r:=.int .i64 yk) rfl rfl ?_;refine uR_ (r:=.vptr (cd_ d_ [.mk zo zk znm zfd zad zn zvk zvi zvf za])) rfl (ot_ G_ _) ?_;refine uR_ (r:=.vptr ([.int .i64 zk,.str znm,.str zfd,.int .i64 zad,.int .i64 zn,.int .i64 zvk,.int .i64 zvi,.flt .f64 zvf,l_ za]++cd_ d_ [])) rfl (ot_.okL_join (by simp only [okL,okC,okA]) (ot_ G_ _)) ?_;refine uR_ (r:=.int .i64 zk) rfl rfl ?_
    (refine c_ rfl rfl ?_ ?_<;>intro h<;>simp only [nc]at h<;>try omega);(refine c_ rfl rfl ?_ ?_<;>intro h<;>simp only [nc]at h<;>try omega);(refine c_ rfl rfl ?_ ?_<;>intro h<;>simp only [nc]at h<;>try omega);(refine c_ rfl rfl ?_ ?_<;>intro h<;>simp only [nc]at h<;>try omega)
    exact t9_ rfl;exact uR_ (run_eql ..) rfl (t9_ (by show AV.bool (decide (vk=kd))=_;rw [decide_eq_true (h3 (by omega))]))
   ·(refine c_ rfl rfl ?_ ?_<;>intro h<;>simp only [nc]at h<;>try omega);(refine c_ rfl rfl ?_ ?_<;>intro h<;>simp only [nc]at h<;>try omega);(refine c_ rfl rfl ?_ ?_<;>intro h<;>simp only [nc]at h<;>try omega)
    exact t9_ rfl;exact uR_ (run_eql ..) rfl (t9_ (by show AV.bool (decide (vk=kd))=_;rw [decide_eq_true (h3 (by omega))]))
theorem p9:∀(d:Nat) (l:List GS),l.length<=5->(∀s∈l,KS d s)->kD_ Tryz.prog 9 [r_ l] (.bool true)
 |d,l,hl,hw=>by
  have ih:∀d',d=d'+1->∀l:List GS,l.length<=5->(∀s∈l,KS d' s)->kD_ Tryz.prog 9 [r_ l] (.bool true):=λd' e=>p9 d';refine tG_ (sh:=[none]) (ls:=[r_ l]) (c:=c9) (n:=300) (t:=t9) mo ov rfl (by simp only [okL,okB]) rfl (λY _=>uZ_ _) rfl (by kernel_rfl) λY hf hg=>?_;unfold t9;refine ua_ (ι:=Nat) (λi=>[.int .i64 (i:Int)]) (λi=>i<=l.length) (λi=>l.length-i) 0 (Nat.zero_le _) rfl (λ_ _=>rfl) (λi j _ _ h=>by simp at h;omega) (λi hs=>?_);refine uR_ (F_ l) rfl ?_
  (refine c_ rfl rfl ?_ ?_<;>intro h<;>simp only [nc]at h<;>try omega)
  .have hi:i<l.length:=(by omega);have hld:=ng_ l hi;have hz:=hw l[i] (List.getElem_mem hi);rcases hzz:l[i]with ⟨op,to,e,thn,els,nm,kd,ad,args⟩;rw [hzz]at hld hz;obtain ⟨d',rfl⟩:∃d',d=d'+1:=(by cases d with|zero=>exact hz.elim|succ d=>exact ⟨d,rfl⟩);have ih:=ih d' rfl;have hk1:=p20 6 to;have hk2:=p20 6 e;obtain ⟨t1,t2,t3,t4,t5,t6,t7,t8,t9,t10⟩:=to;obtain ⟨e1,e2,e3,e4,e5,e6,e7,e8,e9,e10⟩:=e;refine uR_ (mK_ l hi) (ot_ okS _) (uC_ hld rfl (okS _) ?_);rcases hz with ⟨rfl,a1,a2,a3⟩|⟨rfl,a1,a2,a,r,rfl,a3,a4,a5⟩|⟨ho,b1,b2,b6,b7,b4,b5⟩
   ·(refine c_ rfl rfl ?_ ?_<;>intro h<;>simp only [nc]at h<;>try omega)
    (refine t8_ (hk1 a1) rfl rfl (uR_ (uN_ ..) rfl (uB_ rfl (λh=>by cases h) (λ_=>?_))))
    (refine t8_ (hk2 a2) rfl rfl (uR_ (uN_ ..) rfl (uB_ rfl (λh=>by cases h) (λ_=>?_))))
    have a3:t2=e2:=a3
    (refine c_ rfl rfl ?_ ?_<;>intro h<;>simp only [nc]at h<;>try omega)
    exact uR_ (o_ (by omega) (by omega)) rfl (tZ_ rfl ⟨i+1,hi,rfl,by omega⟩)
   ·(refine c_ rfl rfl ?_ ?_<;>intro h<;>simp only [nc]at h<;>try omega);(refine c_ rfl rfl ?_ ?_<;>intro h<;>simp only [nc]at h<;>try omega);(refine c_ rfl rfl ?_ ?_<;>intro h<;>simp only [nc]at h<;>try omega);(refine c_ rfl rfl ?_ ?_<;>intro h<;>simp only [nc]at h<;>try omega)
    refine uR_ (f_ _) rfl ?_;have hlen:1<=(a::r).length:=by simp
    (refine c_ rfl rfl ?_ ?_<;>intro h<;>simp only [nc]at h<;>try omega)
    have hp5:=λb hb=>p20 6 b (a5 b hb);have hall:=hp5;obtain ⟨yo,yk,ynm,yfd,yad,yn,yvk,yvi,yvf,ya⟩:=a;have a3:yk=1:=a3;refine uR_ (r:=.vptr (cd_ d_ (.mk yo yk ynm yfd yad yn yvk yvi yvf ya::r))) (by have:=C_ (.mk yo yk ynm yfd yad yn yvk yvi yvf ya::r) (i:=0) (by simp);exact this) (ot_ G_ _) ?_;refine uR_ (r:=.vptr ([.int .i64 yk,.str ynm,.str yfd,.int .i64 yad,.int .i64 yn,.int .i64 yvk,.int .i64 yvi,.flt .f64 yvf,l_ ya]++cd_ d_ r)) rfl (ot_.okL_join (by simp only [okL,okC,okA]) (ot_ G_ _)) ?_;refine uR_ (r:=.int .i64 yk) rfl rfl ?_
    (refine c_ rfl rfl ?_ ?_<;>intro h<;>simp only [nc]at h<;>try omega)
    generalize hl2:(GX.mk yo yk ynm yfd yad yn yvk yvi yvf ya::r)=l2 at*;refine ua_ (ι:=Nat) (λi=>[.int .i64 (i:Int)]) (λi=>i<=l2.length) (λi=>l2.length-i) 0 (Nat.zero_le _) rfl (λ_ _=>rfl) (λi j _ _ h=>by simp at h;omega) (λj hs=>?_);refine uR_ (f_ l2) rfl ?_
    (refine c_ rfl rfl ?_ ?_<;>intro h<;>simp only [nc]at h<;>try omega)
    .have hj:j<l2.length:=(by omega);have hld2:=H_ l2 hj;have hz2:=hp5 l2[j] (List.getElem_mem hj);rcases hzz2:l2[j]with ⟨zo,zk,znm,zfd,zad,zn,zvk,zvi,zvf,za⟩;rw [hzz2]at hld2 hz2;refine uR_ (C_ l2 hj) (ot_ G_ _) (uC_ hld2 rfl (G_ _) ?_)
     (refine t8_ hz2 rfl rfl (uR_ (uN_ ..) rfl (uB_ rfl (λh=>by cases h) (λ_=>?_))))
     exact uR_ (o_ (by omega) (by omega)) rfl (tZ_ rfl ⟨j+1,hj,rfl,by omega⟩)
    exact uR_ (o_ (by omega) (by omega)) rfl (tZ_ rfl ⟨i+1,hi,rfl,by omega⟩)
   ·(refine c_ rfl rfl ?_ ?_<;>intro h<;>simp only [nc]at h<;>try omega);(refine c_ rfl rfl ?_ ?_<;>intro h<;>simp only [nc]at h<;>try omega)
    (refine t8_ (hk2 b1) rfl rfl (uR_ (uN_ ..) rfl (uB_ rfl (λh=>by cases h) (λ_=>?_))))
    have b2:e2=1:=b2
    (refine c_ rfl rfl ?_ ?_<;>intro h<;>simp only [nc]at h<;>try omega)
    (refine t8_ (ih thn b6 b4) rfl rfl (uR_ (uN_ ..) rfl (uB_ rfl (λh=>by cases h) (λ_=>?_))))
    (refine t8_ (ih els b7 b5) rfl rfl (uR_ (uN_ ..) rfl (uB_ rfl (λh=>by cases h) (λ_=>?_))))
    exact uR_ (o_ (by omega) (by omega)) rfl (tZ_ rfl ⟨i+1,hi,rfl,by omega⟩)
  exact t9_ rfl
def RC (l:List GS):Nat->List AV->Prop:=λ_ ws=>∃(v:AV) (b:List GS) (e:Int),ws=[v,r_ b,.int .i64 e]/\(e≠0->v=.nsl/\b=[])/\(e=0->v=VARS/\b.length=l.length/\∀s∈b,KS 3 s)
theorem p7 (b:List GS) (hl:b.length<=5) (hW:∀s∈b,WS 3 s):CF Tryz.prog 7 ft7 [r_ b] (RC b):=by
 refine uD_ (c:=c7) (n:=300) (t:=t7) mo ov rfl (λY _=>uZ_ _) (by kernel_rfl) λY hf hg=>?_;unfold t7;refine t8_ k15 rfl rfl ?_
 (refine c_ rfl rfl ?_ ?_<;>intro h<;>simp only [nc]at h<;>try omega)
 refine t8_ k16 rfl rfl (t8_ k17 rfl rfl ?_);refine a_ (p18 3 b hl hW) rfl (q9_ b) ⟨?_,?_,trivial⟩;rintro ws ⟨b',rfl,h1,h2⟩;exact VOK_fin (j:=0) (by show okL [VARS,r_ b',.int .i64 0]=true;simp only [okL,okC,okB];rfl) ⟨VARS,b',0,rfl,λh=>absurd rfl h,λ_=>⟨rfl,h1,h2⟩⟩;rintro ws ⟨e,he,rfl⟩;exact VOK_fin (j:=0) rfl ⟨.nsl,[],e,rfl,λ_=>⟨rfl,rfl⟩,λh=>absurd h he⟩
theorem p3 {l:List UInt8} {a:AV} (hp:Pk l a):kD_ Tryz.prog 3 [a] (.bool true):=by
 have hA:=hp.1.ok n5_;refine tG_ (sh:=[none]) (ls:=[a]) (c:=c3) (n:=300) (t:=t3) mo ov rfl (by simp only [okL,hA]) rfl (λY _=>uZ_ _) rfl (by kernel_rfl) λY hf hg=>?_;unfold t3;refine t8_ k4 rfl rfl (uR_ (uN_ ..) rfl (uB_ rfl (λh=>by cases h) (λ_=>?_)));refine uR_ (uf_ hp) rfl ?_
 (refine c_ rfl rfl ?_ ?_<;>intro h<;>simp only [nc]at h<;>try omega)
 exact t9_ rfl;refine a_ (p5 a hA) rfl (by simp only [okL,hA]) ⟨?_,trivial⟩;rintro ws rfl;refine a_ (p6 hp) rfl (by simp only [okL,hA,okC]) ⟨?_,trivial⟩;rintro ws ⟨b,n,rfl,h1,h2⟩;refine a_ (p7 b h1 h2) rfl (by simp only [okL,okB]) ⟨?_,trivial⟩;rintro ws ⟨v,b',e,rfl,h0,hb⟩
 (refine c_ rfl rfl ?_ ?_<;>intro h<;>simp only [nc]at h<;>try omega)
 obtain ⟨rfl,rfl⟩:=h0 h;exact uR_ (r:=.int .i64 0) rfl rfl (uR_ (r:=.int .i64 0) rfl rfl (uR_ (r:=.int .i64 0) rfl rfl (uR_ (r:=.bool true) rfl rfl (t9_ rfl))))
 .obtain ⟨rfl,hb1,hb2⟩:=hb h;refine t8_ k8 rfl rfl (uB_ rfl (λ_=>?_) (λh=>by cases h));refine uR_ (F_ _) rfl (uR_ (F_ _) rfl ?_)
  (refine c_ rfl rfl ?_ ?_<;>intro h<;>simp only [nc]at h<;>try omega)
  exact t8_ (p9 3 b' (by omega) hb2) rfl rfl (t9_ rfl)
theorem q3 {l:List UInt8} {a:AV} (sl:SlV K_ 1 l a) (m:l.length<=maxLen):kD_ Tryz.prog 3 [a] (.bool true):=by simp only [maxLen]at m;exact p3 ⟨sl,by omega⟩
end Go.Proofs.YtbjjpimpabbpdaaGreatDoor.vars
