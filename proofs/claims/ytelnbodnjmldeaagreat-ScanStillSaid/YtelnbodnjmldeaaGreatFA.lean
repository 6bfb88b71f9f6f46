/-
  A symbol as a number, a number as a value: short names for trees.
-/
import Derived.Test.YtelnbodnjmldeaaGreatSyP
import Derived.Test.YtelnbodnjmldeaaGreatRows
import Derived.KernelRfl
import Derived.Test.YtelnbodnjmldeaaGreatSyB
open List renaming not_mem_nil→za'
namespace Go.Proofs.YtelnbodnjmldeaaGreat.vars
open Go Go.Sx
instance symN (n:Nat):OfNat AV n:=⟨.sym n⟩
abbrev J (n:Int):AV:=.int .i64 n
abbrev K (o:XOp) (a:List AV) (i:Nat) (t:VT):VT:=.lt o a i none t
abbrev Q0:XOp:=.bin .eql 3 false true
abbrev Li (o:XOp) (a:List AV) (n:Nat) (t:VT):VT:=.lt o a n none t
abbrev It (o:XOp) (a:List AV) (n:Nat) (A B:VT):VT:=.lt o a n none (.ite n A B)
abbrev Iq (i:Nat) (k:Int) (n:Nat) (A B:VT):VT:=.lt Q0 [.sym i,J k] n none (.ite n A B)
abbrev Dn (l:List AV):VT:=.done (.tup (J 0::l))
abbrev Cf (f:FuncId) (t:FT) (h:List AV) (n k:Nat) (b:VT):VT:=.callF f t h n (.cons k b .nil)
abbrev Q1:XOp:=.bin .neq 3 false true
abbrev Q2:XOp:=.inb
abbrev Q3:XOp:=.bin .add 3 false true
abbrev Q4:XOp:=.bin .geq 3 false true
abbrev Q5:XOp:=.bin .lss 3 false false
abbrev Q6:XOp:=.un .not
abbrev Q7:XOp:=.bin .neq 31 false true
abbrev Q8:XOp:=.bin .leq 3 false true
abbrev Q9:XOp:=.bin .eql 3 false false
abbrev Qa:XOp:=.bin .lss 3 false true
abbrev Qb:XOp:=.bin .gtr 3 false true
abbrev Qc:XOp:=.bin .neq 2 false true
abbrev Qd:XOp:=.bin .neq 3 false false
abbrev Qe:XOp:=.app 3 24
abbrev Qf:XOp:=.len 74
abbrev Qg:XOp:=.iaddr 106
abbrev Qh:XOp:=.len 106
abbrev Qi:XOp:=.len 30
abbrev Qj:XOp:=.bin .sub 3 false true
abbrev Qk:XOp:=.iaddr 30
abbrev Ql:XOp:=.ldx 3 10 1
abbrev Qm:XOp:=.load 108
abbrev Qn:XOp:=.load 3
abbrev Qo:XOp:=.app 10 112
abbrev Qp:XOp:=.ldx 3 1 0
abbrev Qq:XOp:=.bin .eql 2 false false
abbrev Qr:XOp:=.bin .add 3 false false
abbrev Qs:XOp:=.app 7 56
abbrev Qt:XOp:=.bin .eql 2 false true
abbrev Qu:XOp:=.bin .geq 2 false false
abbrev Qv:XOp:=.ldx 2 3 1
abbrev Qw:XOp:=.iaddr 34
abbrev Qx:XOp:=.ldx 62 3 0
abbrev Qy:XOp:=.load 68
abbrev Qz:XOp:=.len 34
abbrev Z0:XOp:=.conv 2 182
abbrev Z1:XOp:=.stx 62 3 0
abbrev Z2:XOp:=.bin .add 3 true false
abbrev Z3:XOp:=.bin .eql 31 false true
abbrev Z4:XOp:=.faddr 68 0
abbrev Z5:XOp:=.len 22
abbrev Z6:XOp:=.opn 21 3
abbrev Z7:XOp:=.bin .geq 3 false false
abbrev Z8:XOp:=.bin .lss 2 false true
abbrev Z9:XOp:=.load 2
abbrev Za:XOp:=.app 2 16
abbrev Zb:XOp:=.un .neg
abbrev Zc:XOp:=.load 62
abbrev Zd:XOp:=.faddr 62 1
abbrev Ze:XOp:=.faddr 108 1
abbrev Zf:XOp:=.bin .neq 60 false false
abbrev Zg:XOp:=.bin .sub 3 false false
abbrev Zh:XOp:=.bin .sub 2 false false
abbrev Zi:XOp:=.conv 5 3
abbrev Zj:XOp:=.bin .eql 34 false true
abbrev Zk:XOp:=.bin .add 2 false false
abbrev Zl:XOp:=.bin .rem 2 false false
abbrev Zm:XOp:=.app 27 336
abbrev Zn:XOp:=.iaddr 216
abbrev Zo:XOp:=.load 9
abbrev Zp:XOp:=.mget 217 [(.str [111],J 2,0),(.str [120],J 2,1),(.str [113],J 1,2),(.str [121],J 3,3),(.str [122],J 5,4),(.str [119],J 4,5)]
abbrev Zq:XOp:=.ldx 108 10 0
abbrev Zr:XOp:=.stx 108 10 0
abbrev Zs:XOp:=.len 25
abbrev Zt:XOp:=.bin .leq 3 false false
abbrev Zu:XOp:=.bin .gtr 3 false false
abbrev Zv:XOp:=.bin .eql 31 false false
abbrev Zw:XOp:=.iaddr 46
abbrev Zx:XOp:=.load 30
abbrev Zy:XOp:=.bin .leq 2 false false
abbrev Zz:XOp:=.conv 2 60
abbrev U0:XOp:=.bin .sub 182 false false
abbrev U1:XOp:=.mm false
abbrev U2:XOp:=.conv 182 2
abbrev U3:XOp:=.stx 3 7 2
abbrev U4:XOp:=.iaddr 25
abbrev U5:XOp:=.load 110
abbrev U8:XOp:=.flat 17 0 1 17
abbrev U9:XOp:=.bin .neq 31 false false
abbrev Ua:XOp:=.bin .neq 2 false false
abbrev Ub:XOp:=.bin .quo 2 false false
abbrev Uc:XOp:=.bin .lss 60 false false
abbrev Ui:XOp:=.bin .eql 182 false true
abbrev Uj:XOp:=.bin .neq 182 false true
abbrev Ut:XOp:=.bin .neq 4 false false
abbrev Uu:XOp:=.bin .lss 2 false false
abbrev Uv:XOp:=.bin .mul 2 false false
abbrev Uw:XOp:=.bin .add 60 false false
abbrev Ux:XOp:=.bin .sub 60 false false
abbrev Uy:XOp:=.bin .mul 60 false false
abbrev Uz:XOp:=.bin .quo 60 false false
abbrev G0:XOp:=.bin .eql 60 false false
abbrev G1:XOp:=.bin .leq 60 false false
abbrev G3:XOp:=.bin .gtr 2 false false
abbrev G4:XOp:=.bin .add 2 false true
abbrev G5:XOp:=.bin .eql 4 false false
abbrev G6:XOp:=.bin .gtr 182 false false
end Go.Proofs.YtelnbodnjmldeaaGreat.vars
set_option linter.unusedVariables false
set_option linter.unusedSimpArgs false
namespace Go.Sx
section
variable {P:Program} {t:TypeId} {ti:TypeInfo} {α:Type} {enc:α->List AV} {w:Nat}
theorem wK_:∀(a xs b c:List AV),b.length=xs.length->dg_ a.length xs (a++(b++c))=some (a++(xs++c))
 |[],[],[],c,_=>by cases c<;>rfl
 |[],x::xs,y::b,c,h=>by have ih:=wK_ [] xs b c (by simpa using h);simp only [List.nil_append,List.length_nil,List.cons_append]at ih⊢;simp only [dg_,ih]
 |[],x::xs,[],c,h=>by simp at h
 |[],[],y::b,c,h=>by simp at h
 |x::a,xs,b,c,h=>by simp only [List.cons_append,List.length_cons,dg_,wK_ a xs b c h]
theorem yM_ (hw:∀a,(enc a).length=w) (l:List α) {i:Nat} (hi:i<l.length):∃a b,bi_ enc l=a++(enc l[i]++b)/\a.length=i*w/\∀x,bi_ enc (l.set i x)=a++(enc x++b):=by
 refine ⟨bi_ enc (l.take i),bi_ enc (l.drop (i+1)),?_,?_,λx=>?_⟩;have h1:l=l.take i++l[i]::l.drop (i+1):=(by rw [List.getElem_cons_drop,List.take_append_drop]);have h2:=congrArg (bi_ enc) h1;rw [dn_]at h2;exact h2
 .rw [a5_ hw,List.length_take];congr 1;omega
 rw [List.set_eq_take_append_cons_drop,if_pos hi,dn_];rfl
theorem run_stx (hw:∀a,(enc a).length=w) {l:List α} {i:Nat} (hi:i<l.length) {off:Nat} {v:AV} {xs p q r:List AV} {y:α} (hc:v.cells=xs) (ho:v=.agg xs\/(∃k n,v=.int k n)) (hinf:P.info? t=some ti) (hs:ti.size=xs.length) (h1:bb_ xs=true)
  (he:enc l[i]=p++(q++r)) (hp:p.length=off) (hq:q.length=xs.length) (hy:enc y=p++(xs++r)) (k:IntKind):(XOp.stx t w off).run P [a3_ enc w l,.int k (i:Int),v]=some (a3_ enc w (l.set i y)):=by
 obtain ⟨a,b,e1,e2,e3⟩:=yM_ hw l hi;obtain ⟨x0,l',rfl⟩:∃x l',l=x::l':=by cases l with|nil=>simp at hi|cons x l'=>exact ⟨x,l',rfl⟩
 have cP_:∃z l'',(x0::l').set i y=z::l''/\l''.length=l'.length:=by
  cases i with
  |zero=>exact ⟨y,l',rfl,rfl⟩
  |succ i=>exact ⟨x0,l'.set i y,rfl,by simp⟩
 obtain ⟨z,l'',e4,e5⟩:=cP_;have hst:cb_ P (rM_ (bi_ enc (x0::l'))) t (.ptr 0 (i*w+off)) v=some (.tup [],(rM_ (bi_ enc (x0::l'))).set 0 (.cells (bi_ enc ((x0::l').set i y)))):=by have hg:(rM_ (bi_ enc (x0::l'))).get 0=some (.cells (bi_ enc (x0::l'))):=rfl;have hsa:dg_ (i*w+off) xs (bi_ enc (x0::l'))=some (bi_ enc ((x0::l').set i y)):=(by have:=wK_ (a++p) xs q (r++b) hq;rw [List.length_append,e2,hp]at this;rw [e1,he,e3,hy];simpa [List.append_assoc]using this);have hb:Nat.beq xs.length ti.size=true:=(by rw [hs];exact Nat.beq_refl _);rcases ho with rfl|⟨k',n,rfl⟩;simp only [cb_,hinf];have hc':(AV.agg xs).cells=xs:=hc;simp only [hc',hb,h1,hg,hsa];simp only [cb_,hinf];simp only [hc,hb,h1,hg,hsa]
 show (match cb_ P (rM_ (bi_ enc (x0::l'))) t (.ptr 0 (Nat.add (Nat.mul i w) off)) v with
  |some r=>match r.2.get 0 with
   |some (.cells cs')=>some (AV.vsl (l'.length+1) w cs')
   |_=>none
  |none=>none)=_
 have e6:Nat.add (Nat.mul i w) off=i*w+off:=rfl;rw [e6,hst];have hg2:∀c:List AV,((rM_ (bi_ enc (x0::l'))).set 0 (.cells c)).get 0=some (.cells c):=λc=>rfl;simp only [hg2];rw [e4];show _=some (AV.vsl (l''.length+1) w (bi_ enc (z::l'')));rw [e5]
theorem wd_ {l:List α} {i:Nat} (hi:i<l.length) (k:IntKind):(XOp.inb).run P [a3_ enc w l,.int k (i:Int)]=some (.int .i64 (i:Int)):=by
 cases l with
 |nil=>simp at hi
 |cons x r=>
  show (match Sx.idx (i:Int) (r.length+1)with|some n=>some (AV.int .i64 (.ofNat n))|none=>none)=_;have hb:Nat.blt i (r.length+1)=true:=(by simpa [Nat.blt_eq]using hi);have:Sx.idx (i:Int) (r.length+1)=some i:=by show (match Nat.blt i (r.length+1)with|true=>some i|false=>none)=some i;rw [hb]
  rw [this];rfl
end
theorem wy_:∀{l:List AV},okL l=true->bb_ l=true
 |[],_=>rfl
 |a::r,h=>by rw [aY_]at h;obtain ⟨h1,h2⟩:=aa_ h;have:a.one=true:=(by cases a<;>first|rfl|(simp [okC]at h1));simp only [bb_,this,wy_ h2]
end Go.Sx
set_option maxRecDepth 100000
set_option linter.unusedVariables false
set_option linter.unusedSimpArgs false
namespace Go.Sx
section
variable {P:Program} {t:TypeId} {ti:TypeInfo} {α:Type} {enc:α->List AV} {w:Nat}
end
end Go.Sx
set_option linter.unusedVariables false
namespace Go.Proofs.YtelnbodnjmldeaaGreat.vars
open Go Go.Sx
def hs:Nat->Nat->List AV
 |_,0=>[]
 |j,n+1=>.slx j 0 0::hs (j+1) n
def pk (a b:AV):Nat×List AV:=(0,[a,b])
def ft46:FT:=⟨1,⟨[(0,.ptr 0 0),(1,.slx 2 0 0)],[pk (.slx 0 0 0) (.slx 1 0 0)],1,3,[],[],[]⟩,[(false,⟨[(0,.slx 0 0 0)],[pk (.sym 64) (.slx 1 0 0)],1,2,[],[],[]⟩)]⟩
def ftX:FT:=⟨1,⟨[(0,.ptr 0 0),(1,.slx 2 0 0),(2,.slx 3 0 0)],[pk (.slx 0 0 0) (.slx 1 0 0)],1,4,[],[],[]⟩,[(false,⟨[(0,.agg (hs 0 10))],[pk (.sym 64) (.slx 10 0 0)],1,11,[],[],[]⟩)]⟩
def o_:FT:=ftX
def wj_:FT:=ftX
def ft98:FT:=⟨1,⟨[(0,.ptr 0 0),(1,.slx 2 0 0)],[pk (.slx 0 0 0) (.slx 1 0 0)],1,3,[],[],[]⟩,[(false,⟨[(0,.agg (hs 0 27))],[pk (.sym 64) (.slx 27 0 0)],1,28,[],[],[]⟩)]⟩
def ft55:FT:=⟨1,⟨[(0,.ptr 0 0),(1,.slx 2 0 0),(2,.slx 3 0 0)],[pk (.slx 0 0 0) (.slx 1 0 0)],1,4,[],[],[]⟩,[(false,⟨[(0,.slx 1 27 0)],[pk (.sym 64) (.slx 1 0 0)],2,2,[⟨1,27,0,0,none⟩],[],[]⟩)]⟩
def ft24:FT:=⟨1,⟨[(0,.ptr 0 0)],[pk (.slx 0 0 0) (.slx 1 0 0)],1,2,[],[],[]⟩,[(false,⟨[(0,.agg (hs 0 2))],[pk (.sym 64) (.slx 2 0 0)],1,3,[],[],[]⟩)]⟩
def ft17:FT:=⟨0,⟨[(0,.slx 0 0 0)],[],0,1,[],[],[]⟩,[(false,⟨[(0,.ptr 0 0)],[pk (.sym 64) (.int .i64 0)],1,0,[],[],[]⟩)]⟩
def ft149:FT:=⟨0,⟨[(0,.slx 0 0 0),(1,.agg (hs 1 10))],[],0,11,[],[],[]⟩,[(false,⟨[(0,.tup [.agg (hs 0 10),.slx 10 0 0])],[],0,11,[],[],[]⟩)]⟩
def Ag_:FT:=ft149
def ft185:FT:=⟨0,⟨[(0,.slx 0 0 0),(1,.agg (hs 1 10)),(2,.slx 11 0 0)],[],0,12,[],[],[]⟩,[(false,⟨[(0,.tup [.agg (hs 0 10),.slx 10 0 0])],[],0,11,[],[],[]⟩)]⟩
def ft97:FT:=⟨0,⟨[(0,.slx 0 0 0),(1,.agg (hs 1 27))],[],0,28,[],[],[]⟩,[(false,⟨[(0,.tup [.agg (hs 0 27),.slx 27 0 0])],[],0,28,[],[],[]⟩)]⟩
def Ae_:FT:=ft97
def Af_:FT:=ft97
def ft54:FT:=⟨0,⟨[(0,.slx 0 0 0),(1,.slx 1 0 0)],[],0,2,[],[],[]⟩,[(false,⟨[(0,.tup [.slx 0 0 0,.slx 1 0 0])],[],0,2,[],[],[]⟩)]⟩
def ft23:FT:=⟨0,⟨[(0,.agg (hs 0 2))],[],0,2,[],[],[]⟩,[(false,⟨[(0,.tup [.agg (hs 0 2),.slx 2 0 0])],[],0,3,[],[],[]⟩)]⟩
def ft8:FT:=⟨0,⟨[(0,.slx 0 0 0)],[],0,1,[],[],[]⟩,[(false,⟨[(0,.tup [.agg (hs 0 2),.slx 2 0 0])],[],0,3,[],[],[]⟩)]⟩
def ft25:FT:=⟨0,⟨[(0,.slx 0 7 0),(1,.slx 1 0 0)],[],1,2,[⟨0,7,0,0,none⟩],[],[]⟩,[(false,⟨[(0,.slx 0 7 0)],[],1,1,[⟨0,7,0,0,none⟩],[],[]⟩)]⟩
def ft56:FT:=⟨0,⟨[(0,.slx 0 7 0),(1,.agg (hs 1 27))],[],1,28,[⟨0,7,0,0,none⟩],[],[]⟩,[(false,⟨[(0,.slx 0 7 0)],[],1,1,[⟨0,7,0,0,none⟩],[],[]⟩)]⟩
def ft202:FT:=⟨0,⟨[(0,.slx 0 0 0)],[],0,1,[],[],[]⟩,[(true,⟨[(0,.iface 268 (.agg [.slx 0 0 0]))],[],0,1,[],[],[]⟩)]⟩
def ft204:FT:=⟨0,⟨[(0,.slx 0 0 0),(1,.slx 1 0 0),(2,.slx 2 0 0)],[],0,3,[],[],[]⟩,[(false,⟨[(0,.slx 0 0 0)],[],0,1,[],[],[]⟩),(true,⟨[(0,.iface 268 (.agg [.slx 0 0 0]))],[],0,1,[],[],[]⟩)]⟩
def zd_:FT:=ft204
def ftM (sl:List (Nat×AV)) (nv:Nat) (exs:List (Bool×Nat×AV)):FT:=⟨2,⟨(0,.ptr 0 0)::sl,[(0,[.slx 1 3 0,.slx 1 0 0,.slx 2 0 0])],2,nv+3,[⟨1,3,0,0,some 0⟩],[],[]⟩,
 exs.map λ(b,n,a)=>(b,⟨[(0,a)],[(0,[.ptx 1 64 3 0,.sym 65,.sym 66])],2,n,[],[],[(1,64)]⟩)⟩
def ft47:FT:=⟨1,⟨[(0,.ptr 0 0),(1,.slx 2 0 0)],[pk (.slx 0 0 0) (.slx 1 0 0)],1,3,[],[],[]⟩,[(false,⟨[(0,.agg (hs 0 3))],[pk (.sym 64) (.slx 3 0 0)],1,4,[],[],[]⟩)]⟩
def ft87:FT:=⟨1,⟨[(0,.ptr 0 0)],[pk (.slx 0 0 0) (.slx 1 0 0)],1,2,[],[],[]⟩,[(false,⟨[(0,.slx 0 0 0)],[pk (.sym 64) (.slx 1 0 0)],1,2,[],[],[]⟩)]⟩
def CQ_:FT:=ft46
def ft18:FT:=⟨1,⟨[(0,.ptr 0 0)],[pk (.slx 0 0 0) (.slx 1 0 0)],1,2,[],[],[]⟩,[(false,⟨[(0,.slx 1 3 0)],[pk (.sym 64) (.slx 1 0 0)],2,2,[⟨1,3,0,0,none⟩],[],[]⟩)]⟩
def sy (n m:Nat):List AV:=ak_ n m
def ftB (kd off n w:Nat) (tm:Bool):FT:=⟨1,⟨[(0,.int .i64 (.ofNat kd)),(1,.sl 0 off n 3 none),(2,.slx 63 0 0),(3,.slx 64 0 0)]++(match tm with|true=>[(4,.slx 65 0 0)]|false=>[]),[(0,hs 0 63)],1,(match tm with|true=>66|false=>65),[],[],[]⟩,
 [(false,⟨[(0,.sl 1 0 n 3 none)],[(0,ak_ 64 63),(1,hs 0 w)],2,w,[],[],[]⟩)]⟩
def zG_:FT:=ftB 6 36 4 12 true
def zE_:FT:=ftB 9 48 3 9 false
def zF_:FT:=ftB 11 57 2 6 false
def ft42:FT:=⟨0,⟨[(0,.slx 0 0 0)],[],0,1,[],[],[]⟩,[(false,⟨[(0,.slx 0 3 0)],[],1,1,[⟨0,3,0,0,none⟩],[],[]⟩)]⟩
def C5_:Nat->List AV
 |0=>[]
 |n+1=>.opq::C5_ n
def Da_ (a b:AV):List AV:=[.slx 0 0 0,a,b,.slx 3 0 0,.slx 4 0 0,.slx 5 0 0,.slx 6 0 0]
def ftK (sl:List (Nat×AV)) (nv:Nat) (exs:List (Bool×Nat×AV)):FT:=⟨2,⟨(0,.ptr 0 0)::sl,[(0,Da_ (.slx 2 3 1) (.slx 1 3 2))],3,nv+7,[⟨2,3,1,0,some 1⟩,⟨1,3,2,0,some 2⟩],[],[]⟩,
 exs.map λ(b,n,a)=>match b with
  |true=>(true,⟨[(0,a)],[(0,C5_ 7)],2,n,[],[],[(1,66)]⟩)
  |false=>(false,⟨[(0,a)],[(0,[.slx 0 0 0,.slx 2 3 1,.ptx 1 66 3 0,.slx 2 0 0,.slx 3 0 0,.slx 4 0 0,.slx 5 0 0])],3,n,[⟨2,3,1,0,some 1⟩],[],[(1,66)]⟩)⟩
def ftL (sl:List (Nat×AV)) (nv:Nat) (exs:List (Bool×Nat×AV)):FT:=⟨1,⟨(0,.ptr 0 0)::sl,[(0,Da_ (.slx 1 3 1) (.slx 2 3 2))],3,nv+7,[⟨1,3,1,0,some 1⟩,⟨2,3,2,0,some 2⟩],[],[]⟩,
 exs.map λ(b,n,a)=>match b with
  |true=>(true,⟨[(0,a)],[(0,C5_ 7)],1,n,[],[],[]⟩)
  |false=>(false,⟨[(0,a)],[(0,Da_ (.slx 1 3 1) (.slx 2 3 2))],3,n,[⟨1,3,1,0,some 1⟩,⟨2,3,2,0,some 2⟩],[],[]⟩)⟩
def pan156:Bool×Nat×AV:=(true,1,.iface 185 (.agg [.slx 0 0 0]))
def J_:FT:=ftK [] 0 [(false,9,.agg (hs 6 3))]
def t_:FT:=ftK [(1,.agg (hs 7 3))] 3 [(false,6,.tup [])]
def zc_:FT:=ftK [(1,.agg (hs 7 7))] 7 [(false,7,.slx 6 0 0),pan156]
def xx_:FT:=ftK [(1,.agg (hs 7 7))] 7 [(false,6,.tup []),pan156]
def Ad_:FT:=xx_
def wi_:FT:=ftL [(1,.agg (hs 7 7))] 7 [(false,7,.tup [])]
def CP_:FT:=ftL [(1,.agg (hs 7 7))] 7 [(false,8,.slx 7 0 0),pan156]
def ft160:FT:=⟨0,⟨[(0,.slx 0 0 0)],[],0,1,[],[],[]⟩,[(false,⟨[(0,.tup [])],[],0,0,[],[],[]⟩),(true,⟨[(0,.iface 185 (.agg [.slx 0 0 0]))],[],0,1,[],[],[]⟩)]⟩
def xP_ (kd ad:Int):List AV:=[.ptr 0 0,.agg [.sym 71,.int .i64 kd,.int .i64 ad,.sym 74,.sym 75,.sym 76,.sym 77]]
def heap95:AHeap:=wi_.ent.heap 64
def ft44:FT:=⟨0,⟨[(0,.slx 0 0 0),(1,.agg (hs 1 7))],[],0,8,[],[],[]⟩,[(false,⟨[(0,.agg (hs 0 7))],[],0,7,[],[],[]⟩)]⟩
def CO_:FT:=ft44
def ft43:FT:=⟨0,⟨[(0,.slx 0 0 0),(1,.slx 1 0 0)],[],0,2,[],[],[]⟩,[(false,⟨[(0,.slx 0 3 0)],[],1,1,[⟨0,3,0,0,none⟩],[],[]⟩)]⟩
end Go.Proofs.YtelnbodnjmldeaaGreat.vars
set_option maxRecDepth 100000
set_option linter.unusedVariables false
set_option linter.unusedSimpArgs false
namespace Go.Proofs.YtelnbodnjmldeaaGreat.vars
open Go Go.Sx
instance gI:Gl:=glT gl0 nr0 []
theorem mo:Tryz.prog.follows .mixedOrders=true:=by kernel_rfl
theorem ov:kN_ Tryz.prog:=v2_ gl0 nr0 _
inductive GX where
 |mk (op kd:Int) (nm fd:List UInt8) (ad n vk vi:Int) (vf:Nat) (args:List GX)
mutual
def v_:GX->List AV
 | .mk op kd nm fd ad n vk vi vf args=>[.int .i64 op,.int .i64 kd,.str nm,.str fd,.int .i64 ad,.int .i64 n,.int .i64 vk,.int .i64 vi,.flt .f64 vf,bw_ args]
def bw_:List GX->AV
 |[]=>.nsl
 |a::r=>.vsl (r.length+1) 10 (v_ a++vD_ r)
def vD_:List GX->List AV
 |[]=>[]
 |a::r=>v_ a++vD_ r
end
theorem yd_:∀l:List GX,vD_ l=bi_ v_ l
 |[]=>rfl
 |a::r=>by simp only [vD_,bi_,yd_ r]
theorem v4_ (l:List GX):bw_ l=a3_ v_ 10 l:=by
 cases l with
 |nil=>rfl
 |cons a r=>simp only [bw_,a3_,bi_,yd_]
theorem nV_ (x:GX):(v_ x).length=10:=by cases x;simp [v_]
mutual
theorem okX:∀x:GX,okL (v_ x)=true
 | .mk op kd nm fd ad n vk vi vf args=>by simp only [v_,okL,okC,okA args]
theorem okA:∀l:List GX,okC (bw_ l)=true
 |[]=>rfl
 |a::r=>by simp only [bw_,okC];exact kY_.okL_join (okX a) (yp_ r)
theorem yp_:∀l:List GX,okL (vD_ l)=true
 |[]=>rfl
 |a::r=>by simp only [vD_];exact kY_.okL_join (okX a) (yp_ r)
end
inductive GS where
 |mk (op:Int) (to e:GX) (thn els:List GS) (nm:List UInt8) (kd ad:Int) (args:List GX)
mutual
def s7_:GS->List AV
 | .mk op to e thn els nm kd ad args=>.int .i64 op::(v_ to++(v_ e++[Z_ thn,Z_ els,.str nm,.int .i64 kd,.int .i64 ad,bw_ args]))
def Z_:List GS->AV
 |[]=>.nsl
 |a::r=>.vsl (r.length+1) 27 (s7_ a++xv_ r)
def xv_:List GS->List AV
 |[]=>[]
 |a::r=>s7_ a++xv_ r
end
theorem yc_:∀l:List GS,xv_ l=bi_ s7_ l
 |[]=>rfl
 |a::r=>by simp only [xv_,bi_,yc_ r]
theorem wZ_ (l:List GS):Z_ l=a3_ s7_ 27 l:=by
 cases l with
 |nil=>rfl
 |cons a r=>simp only [Z_,a3_,bi_,yc_]
theorem CW_ (x:GS):(s7_ x).length=27:=by cases x;simp [s7_,nV_]
mutual
theorem okS:∀x:GS,okL (s7_ x)=true
 | .mk op to e thn els nm kd ad args=>by simp only [s7_];refine kY_.okL_join (a:=[_]) rfl (kY_.okL_join (okX to) (kY_.okL_join (okX e) ?_));simp only [okL,okC,okA args,okB thn,okB els]
theorem okB:∀l:List GS,okC (Z_ l)=true
 |[]=>rfl
 |a::r=>by simp only [Z_,okC];exact kY_.okL_join (okS a) (Ee_ r)
theorem Ee_:∀l:List GS,okL (xv_ l)=true
 |[]=>rfl
 |a::r=>by simp only [xv_];exact kY_.okL_join (okS a) (Ee_ r)
end
def Ari (op:Int) (n:Nat):Prop:=(op=1\/op=2)/\n=0\/(op=3\/op=15\/op=16\/op=17)/\n=1\/(4<=op/\op<=14)/\n=2
def zy_ (f:Nat):Prop:=f=0\/f=4609434218613702656\/f=4611686018427387904\/f=4598175219545276416
def GX.op:GX->Int| .mk op .. =>op
def GX.kd:GX->Int| .mk _ kd .. =>kd
def w5_:List (List UInt8×List UInt8):=[([98],[]),([113],[]),([116,109],[113]),([97],[]),([120],[]),([111],[]),([99],[99,118]),([121],[]),([116,109],[101,116]),([119],[]),([122],[])]
def sF_ (vk vi:Int) (vf:Nat):Prop:=(vk=1\/vk=3\/vk=4\/vk=5)/\0<=vi/\vi<50/\(vk=1->vi<=1)/\(vk=5->vi=0)/\(vk≠5->vf=0)
def Nod (op kd:Int) (nm fd:List UInt8) (vk vi:Int) (vf:Nat):Prop:=(op=1->sF_ vk vi vf)/\(op=2->(nm,fd)∈w5_)/\(op=3->nm=[107])/\(op=17->2<=kd/\kd<=5)
def WX:Nat->GX->Prop
 |0,_=>False
 |d+1,.mk op kd nm fd _ _ vk vi vf args=>Ari op args.length/\zy_ vf/\Nod op kd nm fd vk vi vf/\∀a∈args,WX d a
theorem h_:∀{d e:Nat} {x:GX},d<=e->WX d x->WX e x
 |0,_,_,_,h=>h.elim
 |d+1,0,_,h,_=>by omega
 |d+1,e+1,.mk ..,h,⟨h1,h2,h3,h4⟩=>⟨h1,h2,h3,λa ha=>h_ (by omega) (h4 a ha)⟩
def WS:Nat->GS->Prop
 |0,_=>False
 |d+1,.mk op to e thn els nm kd ad args=>
  (op=1/\WX 5 to/\(to.op=2\/to.op=3)/\WX 6 e/\thn=[]/\els=[])\/
  ((op=2\/op=3)/\WX 5 e/\thn.length<=5/\els.length<=5/\(∀s∈thn,WS d s)/\∀s∈els,WS d s)\/
  (op=4/\(nm=[116,109]\/nm=[99]\/nm=[101])/\args.length<=2/\(∀a∈args,WX 5 a)/\thn=[]/\els=[])
def wr_ (c:UInt8):List AV:=[.int .u8 (c.toNat:Int)]
theorem GO_ (c:UInt8):(wr_ c).length=1:=rfl
theorem wG_ (c:UInt8):okL (wr_ c)=true:=rfl
def Pk (l:List UInt8) (a:AV):Prop:=SlV wr_ 1 l a/\l.length<=9223372036854775807
section
variable {l:List UInt8} {a:AV}
theorem Av_ (h:Pk l a):(XOp.len 22).run Tryz.prog [a]=some (.int .i64 (l.length:Int)):=h.1.len Tryz.underlying22
theorem GK_ (h:Pk l a) {i:Nat} (hi:i<l.length) {k:IntKind}:(XOp.iaddr 22).run Tryz.prog [a,.int k (i:Int)]=some (.vptr (bi_ wr_ (l.drop i))):=h.1.ia (e:=5) Tryz.underlying22 (ti:=(Tryz.prog.info? 5).get!) (by kernel_rfl) (by kernel_rfl) GO_ hi k
theorem ld5 {i:Nat} (hi:i<l.length):(XOp.load 5).run Tryz.prog [.vptr (bi_ wr_ (l.drop i))]=some (.int .u8 (l[i].toNat:Int)):=by rw [List.drop_eq_getElem_cons hi];exact s9_ Tryz.underlying5 rfl _ _
end
theorem Cb_ (n:Nat) (h:n<256):(XOp.conv 5 3).run Tryz.prog [.int .u8 (n:Int)]=some (.int .i64 (n:Int)):=by rw [tR_ Tryz.underlying5 Tryz.underlying3,v6_ (by omega) (by omega)]
theorem BO_ (x m:Nat) (h:0<m) (h2:m<9223372036854775808) (t:TypeId) (cx cy:Bool):(XOp.bin .rem t cx cy).run Tryz.prog [.int .i64 (x:Int),.int .i64 (m:Int)]=some (.int .i64 ((x%m:Nat):Int)):=by
 have:(x:Int).tmod (m:Int)=((x%m:Nat):Int):=by rw [Int.tmod_eq_emod_of_nonneg (by omega)];rfl
 show bD_ Tryz.prog .rem t cx cy (.int .i64 (x:Int)) (.int .i64 (m:Int))=_;exact s8_ (by omega) this t cx cy
theorem q_ {x y:Int} {t:TypeId} {cx cy:Bool} (h1: -9223372036854775807<=x+y) (h2:x+y<=9223372036854775807):(XOp.bin .add t cx cy).run Tryz.prog [.int .i64 x,.int .i64 y]=some (.int .i64 (x+y)):=by rw [run_add,v6_ (by omega) (by omega)]
theorem R_ {x y z:Int} {t:TypeId} {cx cy:Bool} (h:x-y=z) (h1: -9223372036854775807<=z) (h2:z<=9223372036854775807):(XOp.bin .sub t cx cy).run Tryz.prog [.int .i64 x,.int .i64 y]=some (.int .i64 z):=by rw [run_sub,h,v6_ (by omega) (by omega)]
def RN (l:List UInt8) (m:Nat):Nat->List AV->Prop:=λ_ ws=>∃v n:Nat,ws=[.int .i64 (v:Int),.int .i64 (n:Int)]/\v<m/\n<=l.length
def c46:VC:=⟨⟨[],[]⟩,[],[],1,true,[]⟩
def t46:VT:=Li Z5 [64] 67<|It Z7 [65,67] 68 (Dn [J 0,65])<|Li Q3 [65,J 1] 69<|Li Qj [69,J 1] 70<|Li (.iaddr 22) [64,70] 71<|Li (.load 5) [71] 72<|Li Zi [72] 73<|Li (.bin .rem 3 false false) [73,66] 74<|Dn [74,69]
theorem p46 {l:List UInt8} {a:AV} {n m:Nat} (h:Pk l a) (hn:n<=l.length) (hm:0<m) (hm2:m<=1000):CF Tryz.prog 46 ft46 [a,.int .i64 (n:Int),.int .i64 (m:Int)] (RN l m):=by
 have hb:=h.2;refine vC_ (c:=c46) (n:=300) (t:=t46) mo ov rfl (λY _=>vX_ _) (by kernel_rfl) λY hf hg=>?_;unfold t46;refine VOK_lt (Av_ h) rfl (VOK_lt (run_geq ..) rfl (vz_ rfl (λh1=>VOK_fin rfl ⟨0,n,rfl,hm,hn⟩) (λh1=>?_)));have h1:n<l.length:=by simpa using h1
 refine VOK_lt (q_ (by omega) (by omega)) rfl (VOK_lt (R_ (z:=n) (by omega) (by omega) (by omega)) rfl (VOK_lt (GK_ h h1) (kY_ wG_ _) (VOK_lt (ld5 h1) rfl (VOK_lt (Cb_ _ (UInt8.toNat_lt _)) rfl (VOK_lt (BO_ _ _ hm (by omega) ..) rfl (VOK_fin rfl ⟨l[n].toNat%m,n+1,rfl,Nat.mod_lt _ hm,h1⟩))))))
end Go.Proofs.YtelnbodnjmldeaaGreat.vars
set_option maxRecDepth 100000
set_option linter.unusedVariables false
set_option linter.unusedSimpArgs false
namespace Go.Proofs.YtelnbodnjmldeaaGreat.vars
open Go Go.Sx
def RI (l:List UInt8) (m:Int):Nat->List AV->Prop:=λ_ ws=>∃v n:Nat,ws=[.int .i64 (v:Int),.int .i64 (n:Int)]/\(v:Int)<m/\n<=l.length
theorem Bp_ {f:FuncId} {ft:FT} {vs:List AV} {R R':Nat->List AV->Prop} (h:CF Tryz.prog f ft vs R) (hr:∀j ws,R j ws->R' j ws):CF Tryz.prog f ft vs R':=
 ⟨h.1,λY hf B pr E w us h1 h2 h3 h4=>(h.2 Y hf B pr E w us h1 h2 h3 h4).mono λe w' ⟨Y',r,⟨j,ws,b,tp,q1,q2,q3⟩,hp⟩=>⟨Y',r,⟨j,ws,b,tp,q1,hr _ _ q2,q3⟩,hp⟩⟩
theorem qu_ {l:List UInt8} {a:AV} {n:Nat} {m:Int} (h:Pk l a) (hn:n<=l.length) (hm:0<m) (hm2:m<=1000):CF Tryz.prog 46 ft46 [a,.int .i64 (n:Int),.int .i64 m] (RI l m):=by
 have e:m=((m.toNat:Nat):Int):=by omega
 have:=p46 h hn (m:=m.toNat) (by omega) (by omega);rw [←e]at this;exact Bp_ this λj ws ⟨v,n,h1,h2,h3⟩=>⟨v,n,h1,by omega,h3⟩
def RX (l:List UInt8) (d:Nat):Nat->List AV->Prop:=λ_ ws=>∃(x:GX) (n:Nat),ws=v_ x++[.int .i64 (n:Int)]/\WX (d+1) x/\n<=l.length
def PX (l:List UInt8) (a:AV) (f:FuncId) (d:Nat):Prop:=∀(n:Nat) (k:Int),n<=l.length->1<=k/\k<=5->CF Tryz.prog f ftX [a,.int .i64 (n:Int),.int .i64 k,.int .i64 (d:Int)] (RX l d)
theorem et_ {d:Nat} {kd ad n vk vi:Int} {nm fd:List UInt8} {vf:Nat} (ho:sF_ vk vi vf) (hf:zy_ vf):WX (d+1) (.mk 1 kd nm fd ad n vk vi vf []):=⟨.inl ⟨.inl rfl,rfl⟩,hf,⟨λ_=>ho,λh=>by omega,λh=>by omega,λh=>by omega⟩,λa ha=>(za' ha).elim⟩
theorem E_ {d:Nat} {kd ad n vk vi:Int} {nm fd:List UInt8} (ho:(nm,fd)∈w5_):WX (d+1) (.mk 2 kd nm fd ad n vk vi 0 []):=⟨.inl ⟨.inr rfl,rfl⟩,.inl rfl,⟨λh=>by omega,λ_=>ho,λh=>by omega,λh=>by omega⟩,λa ha=>(za' ha).elim⟩
theorem xN_ {d:Nat} {op kd ad n vk vi:Int} {nm fd:List UInt8} {x:GX} (ho:op=3/\nm=[107]\/op=15\/op=16\/op=17/\2<=kd/\kd<=5) (h:WX d x):WX (d+1) (.mk op kd nm fd ad n vk vi 0 [x]):=by refine ⟨.inr (.inl ⟨by omega,rfl⟩),.inl rfl,⟨λh=>by omega,λh=>by omega,λh=>?_,λh=>by omega⟩,λa ha=>by cases List.mem_singleton.1 ha;exact h⟩;rcases ho with ho|ho|ho|ho;exact ho.2;all_goals omega
theorem xO_ {d:Nat} {op kd ad n vk vi:Int} {nm fd:List UInt8} {x y:GX} (ho:4<=op/\op<=14) (h:WX d x) (h2:WX d y):WX (d+1) (.mk op kd nm fd ad n vk vi 0 [x,y]):=
 ⟨.inr (.inr ⟨ho,rfl⟩),.inl rfl,⟨λh=>by omega,λh=>by omega,λh=>by omega,λh=>by omega⟩,λa ha=>by rcases List.mem_cons.1 ha with rfl|ha;exact h;cases List.mem_singleton.1 ha;exact h2⟩
theorem a_ {P:Program} {Q:AV->Prop} {L:List (Nat->List AV->Prop)} {Y:Sy} {f:FuncId} {ft:FT} {hv vs:List AV} {n:Nat} {bs:VTs} {R:Nat->List AV->Prop} (h1:CF P f ft vs R) (h0:ab_ Y.v hv=vs) (h2:okL vs=true) (h3:sr_ P Q R L (Y.puts n vs) (Nat.add n ft.ent.nv) 0 bs):VOK P Q L Y (.callF f ft hv n bs):=by subst h0;exact uK_ h1 h2 h3
theorem okP {a:AV} (h:okC a=true) {n m:Int}:okL [a,.int .i64 n,.int .i64 m]=true:=by simp only [okL,okC,h]
theorem okQ {a:AV} (h:okC a=true) {n m k:Int}:okL [a,.int .i64 n,.int .i64 m,.int .i64 k]=true:=by simp only [okL,okC,h]
theorem vJ_ (x:GX) (n:Int):okL (v_ x++[.int .i64 n])=true:=kY_.okL_join (okX x) rfl
theorem Q_ {l:List UInt8} {d n j:Nat} {x:GX} {hv:List AV} {Y:Sy} {L:List (Nat->List AV->Prop)} (h:ab_ Y.v hv=v_ x++[.int .i64 (n:Int)]) (hw:WX (d+1) x) (hn:n<=l.length):VOK Tryz.prog (QF (RX l d)) L Y (.done (.tup (.int .i64 (.ofNat j)::hv))):=
 VOK_fin (by rw [h];exact vJ_ x n) ⟨x,n,h,hw,hn⟩
section
variable {P:Program} {Q:AV->Prop} {L:List (Nat->List AV->Prop)} {Y:Sy} {t:TypeId} {cx cy:Bool} {args:List AV} {n:Nat} {A B:VT} {k:IntKind} {a b:Int}
def u_:BinOp->Int->Int->Bool
 | .eql,a,b=>decide (a=b)
 | .neq,a,b=> !decide (a=b)
 | .lss,a,b=>decide (a<b)
 | .gtr,a,b=>decide (b<a)
 | .leq,a,b=>decide (a<=b)
 |_,_,_=>false
theorem y_ {op:BinOp} (h0:ab_ Y.v args=[.int k a,.int k b]) (ho:(match op with| .eql=>true| .neq=>true| .lss=>true| .gtr=>true| .leq=>true|_=>false)=true)
  (h1:u_ op a b=true->VOK P Q L (Y.put n (.bool (u_ op a b))) A) (h2:u_ op a b=false->VOK P Q L (Y.put n (.bool (u_ op a b))) B):VOK P Q L Y (.lt (.bin op t cx cy) args n none (.ite n A B)):=by
 have hr:(XOp.bin op t cx cy).run P [.int k a,.int k b]=some (.bool (u_ op a b)):=by
  cases op<;>simp only at ho<;>first|(cases ho;done)|skip
  exact run_eql ..;exact run_neq ..;exact run_lss ..;exact run_leq ..;exact run_gtr ..
 exact VOK_lt (by rw [h0];exact hr) rfl (vz_ (t:=u_ op a b) (by rw [wc_,if_pos rfl]) h1 h2)
end
def F4_:VC:=⟨⟨[],[]⟩,[],[],1,true,[(46,ft46),(150,o_)]⟩
def EU_:VT:=Cf 46 ft46 [64,65,J 4] 68 2<|Iq 66 1 73 (Cf 46 ft46 [64,72,J 2] 74 2<|Li Qg [.vsl 4 10 [J 2,J 0,.str [98],.str [],J 0,J 0,J 0,J 0,.flt .f64 0,.nsl,J 2,J 0,.str [113],.str [],J 0,J 0,J 0,J 0,.flt .f64 0,.nsl,J 2,J 0,.str [116,109],.str [113],J 0,J 0,J 0,J 0,.flt .f64 0,.nsl,J 1,J 0,.str [],.str [],J 0,J 0,J 1,77,.flt .f64 0,.nsl],71] 79<|.lt Qm [79] 80 (some 10)<|Dn [80,81,82,83,84,85,86,87,88,89,78])<|Iq 66 2 74 (Iq 71 0 75 (It Qb [67,J 1] 76 (Li Qj [67,J 1] 77<|Cf 150 o_ [64,72,J 2,77] 78 11<|Dn [J 3,J 0,.str [107],.str [],J 0,J 0,J 0,J 0,.flt .f64 0,.vsl 1 10 [82,83,84,85,86,87,88,89,90,91],92])<|It Qa [71,J 2] 77 (Cf 46 ft46 [64,72,J 7] 78 2<|Dn [J 17,J 2,.str [],.str [],J 0,J 0,J 0,J 0,.flt .f64 0,.vsl 1 10 [J 1,J 0,.str [],.str [],J 0,J 0,J 3,81,.flt .f64 0,.nsl],82])<|Cf 46 ft46 [64,72,J 4] 78 2<|Li Qg [.vsl 4 10 [J 2,J 0,.str [97],.str [],J 0,J 0,J 0,J 0,.flt .f64 0,.nsl,J 2,J 0,.str [120],.str [],J 0,J 0,J 0,J 0,.flt .f64 0,.nsl,J 2,J 0,.str [111],.str [],J 0,J 0,J 0,J 0,.flt .f64 0,.nsl,J 2,J 0,.str [99],.str [99,118],J 0,J 0,J 0,J 0,.flt .f64 0,.nsl],81] 83<|.lt Qm [83] 84 (some 10)<|Dn [84,85,86,87,88,89,90,91,92,93,82])<|It Qa [71,J 2] 76 (Cf 46 ft46 [64,72,J 7] 77 2<|Dn [J 17,J 2,.str [],.str [],J 0,J 0,J 0,J 0,.flt .f64 0,.vsl 1 10 [J 1,J 0,.str [],.str [],J 0,J 0,J 3,80,.flt .f64 0,.nsl],81])<|Cf 46 ft46 [64,72,J 4] 77 2<|Li Qg [.vsl 4 10 [J 2,J 0,.str [97],.str [],J 0,J 0,J 0,J 0,.flt .f64 0,.nsl,J 2,J 0,.str [120],.str [],J 0,J 0,J 0,J 0,.flt .f64 0,.nsl,J 2,J 0,.str [111],.str [],J 0,J 0,J 0,J 0,.flt .f64 0,.nsl,J 2,J 0,.str [99],.str [99,118],J 0,J 0,J 0,J 0,.flt .f64 0,.nsl],80] 82<|.lt Qm [82] 83 (some 10)<|Dn [83,84,85,86,87,88,89,90,91,92,81])<|Iq 66 3 75 (It Qa [71,J 2] 76 (Cf 46 ft46 [64,72,J 9] 77 2<|Dn [J 1,J 0,.str [],.str [],J 0,J 0,J 3,80,.flt .f64 0,.nsl,81])<|Dn [J 2,J 0,.str [121],.str [],J 0,J 0,J 0,J 0,.flt .f64 0,.nsl,72])<|Iq 66 4 76 (Iq 71 0 77 (Dn [J 2,J 0,.str [116,109],.str [101,116],J 0,J 0,J 0,J 0,.flt .f64 0,.nsl,72])<|Iq 71 1 78 (Cf 46 ft46 [64,72,J 50] 79 2<|Dn [J 1,J 0,.str [],.str [],J 0,J 0,J 4,82,.flt .f64 0,.nsl,83])<|Dn [J 2,J 0,.str [119],.str [],J 0,J 0,J 0,J 0,.flt .f64 0,.nsl,72])<|It Qa [71,J 2] 77 (Cf 46 ft46 [64,72,J 4] 78 2<|Li (.iaddr 199) [.vsl 4 1 [.flt .f64 0,.flt .f64 4609434218613702656,.flt .f64 4611686018427387904,.flt .f64 4598175219545276416],81] 83<|Li (.load 60) [83] 84<|Dn [J 1,J 0,.str [],.str [],J 0,J 0,J 5,J 0,84,.nsl,82])<|Dn [J 2,J 0,.str [122],.str [],J 0,J 0,J 0,J 0,.flt .f64 0,.nsl,72]
def F2_:VC:=⟨⟨[],[]⟩,[],[],1,true,[(46,ft46),(150,o_),(152,wj_)]⟩
def ES_:VT:=It Q8 [67,J 1] 68 (Cf 152 wj_ [64,65,66,67] 69 11<|Dn [73,74,75,76,77,78,79,80,81,82,83])<|Cf 46 ft46 [64,65,J 4] 69 2<|Iq 72 0 74 (Cf 152 wj_ [64,73,66,67] 75 11<|Dn [79,80,81,82,83,84,85,86,87,88,89])<|Iq 66 1 75 (Cf 46 ft46 [64,73,J 5] 76 2<|Iq 79 0 81 (Li Qj [67,J 1] 82<|Cf 150 o_ [64,80,J 1,82] 83 11<|Dn [J 15,J 0,.str [],.str [],J 0,J 0,J 0,J 0,.flt .f64 0,.vsl 1 10 [87,88,89,90,91,92,93,94,95,96],97])<|Iq 79 1 82 (Cf 46 ft46 [64,80,J 2] 83 2<|Li Z2 [J 13,86] 88<|Li Qj [67,J 1] 89<|Cf 150 o_ [64,87,J 1,89] 90 11<|Li Qj [67,J 1] 105<|Cf 150 o_ [64,104,J 1,105] 106 11<|Dn [88,J 0,.str [],.str [],J 0,J 0,J 0,J 0,.flt .f64 0,.vsl 2 10 [94,95,96,97,98,99,100,101,102,103,110,111,112,113,114,115,116,117,118,119],120])<|Cf 46 ft46 [64,80,J 4] 83 2<|Li Z2 [J 2,86] 88<|Cf 46 ft46 [64,87,J 4] 89 2<|Li Z2 [J 9,92] 94<|Li Qj [67,J 1] 95<|Cf 150 o_ [64,93,88,95] 96 11<|Li Qj [67,J 1] 111<|Cf 150 o_ [64,110,88,111] 112 11<|Dn [94,J 0,.str [],.str [],J 0,J 0,J 0,J 0,.flt .f64 0,.vsl 2 10 [100,101,102,103,104,105,106,107,108,109,116,117,118,119,120,121,122,123,124,125],126])<|Cf 46 ft46 [64,73,J 9] 76 2<|Iq 79 0 81 (Li Qj [67,J 1] 82<|Cf 150 o_ [64,80,66,82] 83 11<|Dn [J 16,J 0,.str [],.str [],J 0,J 0,J 0,J 0,.flt .f64 0,.vsl 1 10 [87,88,89,90,91,92,93,94,95,96],97])<|Iq 79 1 82 (Cf 46 ft46 [64,80,J 4] 83 2<|Li Z2 [J 2,86] 88<|Li Qj [67,J 1] 89<|Cf 150 o_ [64,87,88,89] 90 11<|Dn [J 17,66,.str [],.str [],J 0,J 0,J 0,J 0,.flt .f64 0,.vsl 1 10 [94,95,96,97,98,99,100,101,102,103],104])<|Iq 79 2 83 (It Q1 [66,J 5] 84 (Li Qj [67,J 1] 85<|Cf 150 o_ [64,80,66,85] 86 11<|Li Qj [67,J 1] 101<|Cf 150 o_ [64,100,66,101] 102 11<|Dn [J 8,J 0,.str [],.str [],J 0,J 0,J 0,J 0,.flt .f64 0,.vsl 2 10 [90,91,92,93,94,95,96,97,98,99,106,107,108,109,110,111,112,113,114,115],116])<|Cf 46 ft46 [64,80,J 4] 85 2<|Li Z2 [J 4,88] 90<|Li Qj [67,J 1] 91<|Cf 150 o_ [64,89,66,91] 92 11<|Li Qj [67,J 1] 107<|Cf 150 o_ [64,106,66,107] 108 11<|Dn [90,J 0,.str [],.str [],J 0,J 0,J 0,J 0,.flt .f64 0,.vsl 2 10 [96,97,98,99,100,101,102,103,104,105,112,113,114,115,116,117,118,119,120,121],122])<|Cf 46 ft46 [64,80,J 4] 84 2<|Li Z2 [J 4,87] 89<|Li Qj [67,J 1] 90<|Cf 150 o_ [64,88,66,90] 91 11<|Li Qj [67,J 1] 106<|Cf 150 o_ [64,105,66,106] 107 11<|Dn [89,J 0,.str [],.str [],J 0,J 0,J 0,J 0,.flt .f64 0,.vsl 2 10 [95,96,97,98,99,100,101,102,103,104,111,112,113,114,115,116,117,118,119,120],121]
theorem Er_ {l:List UInt8} {a:AV} (hp:Pk l a) (d:Nat) (hd2:d<=100) (hX:1<=d->PX l a 150 d):PX l a 152 (d+1):=by
 intro n k hn hk;have hA:=hp.1.ok wG_;refine vC_ (c:=F4_) (n:=300) (t:=EU_) mo ov rfl (λY _=>vX_ _) (by kernel_rfl) λY hf hg=>?_;unfold EU_;have f7:∀v:Nat,(v:Int)<7->WX (d+1+1) (.mk 17 2 [] [] 0 0 0 0 0 [.mk 1 0 [] [] 0 0 3 (v:Int) 0 []]):=λv hv=>xN_ (by decide) (et_ (by unfold sF_;omega) (.inl rfl))
 (refine a_ (qu_ hp hn (by first|decide|omega) (by first|decide|omega)) rfl (okP hA) ⟨?_,trivial⟩;intro ws hw;rcases hw with ⟨v,n,rfl,hv,hn⟩)
 (refine y_ rfl rfl (λh=>?_) (λh=>?_)<;>rw [u_]at h)
 ·((have e4:v=0\/v=1\/v=2\/v=3:=by omega);rcases e4 with rfl|rfl|rfl|rfl)
  all_goals (refine a_ (qu_ hp hn (by first|decide|omega) (by first|decide|omega)) rfl (okP hA) ⟨?_,trivial⟩;intro ws hw;rcases hw with ⟨v,n,rfl,hv,hn⟩);refine VOK_lt rfl rfl (vA_ rfl rfl rfl ?_);(first
                                                                                                                                                                                                               |exact Q_ (x:=.mk 2 _ _ _ _ _ _ _ _ []) rfl (E_ (by decide)) hn
                                                                                                                                                                                                               |exact Q_ (x:=.mk 1 _ _ _ _ _ _ _ _ []) rfl (et_ (by unfold sF_;omega) (by first|exact .inl rfl|exact .inr (.inl rfl)|exact .inr (.inr (.inl rfl))|exact .inr (.inr (.inr rfl)))) hn)
 (refine y_ rfl rfl (λh=>?_) (λh=>?_)<;>rw [u_]at h)
 ·(refine y_ rfl rfl (λh=>?_) (λh=>?_)<;>rw [u_]at h)
  ·(refine y_ rfl rfl (λh=>?_) (λh=>?_)<;>rw [u_]at h)
   .have hd1:1<=d:=(by simp at h;omega);refine VOK_lt (R_ (z:=(d:Int)) (by omega) (by omega) (by omega)) rfl ?_
    (refine a_ ((hX hd1) _ _ hn (by first|decide|(simp only [decide_eq_true_eq,decide_eq_false_iff_not]at *; omega))) rfl (okQ hA) ⟨?_,trivial⟩;intro ws hw;obtain ⟨⟨op,kd,nm,fd,ad,nn,vk,vi,vf,args⟩,n,rfl,hx,hn⟩:=hw)
    (exact Q_ (x:=.mk _ _ _ _ _ _ _ _ _ [.mk ..]) rfl (xN_ (by first|decide|(refine .inr (.inr (.inr ⟨rfl,?_,?_⟩))<;>(simp only [decide_eq_true_eq,decide_eq_false_iff_not]at *; omega))) (by assumption)) hn)
   ·(refine y_ rfl rfl (λh=>?_) (λh=>?_)<;>rw [u_]at h)
    ·(refine a_ (qu_ hp hn (by first|decide|omega) (by first|decide|omega)) rfl (okP hA) ⟨?_,trivial⟩;intro ws hw;rcases hw with ⟨v,n,rfl,hv,hn⟩)
     exact Q_ (x:=.mk _ _ _ _ _ _ _ _ _ [.mk _ _ _ _ _ _ _ _ _ []]) rfl (f7 _ hv) hn
    ·(refine a_ (qu_ hp hn (by first|decide|omega) (by first|decide|omega)) rfl (okP hA) ⟨?_,trivial⟩;intro ws hw;rcases hw with ⟨v,n,rfl,hv,hn⟩);((have e4:v=0\/v=1\/v=2\/v=3:=by omega);rcases e4 with rfl|rfl|rfl|rfl)
     all_goals refine VOK_lt rfl rfl (vA_ rfl rfl rfl ?_);(first
                                                                |exact Q_ (x:=.mk 2 _ _ _ _ _ _ _ _ []) rfl (E_ (by decide)) hn
                                                                |exact Q_ (x:=.mk 1 _ _ _ _ _ _ _ _ []) rfl (et_ (by unfold sF_;omega) (by first|exact .inl rfl|exact .inr (.inl rfl)|exact .inr (.inr (.inl rfl))|exact .inr (.inr (.inr rfl)))) hn)
  ·(refine y_ rfl rfl (λh=>?_) (λh=>?_)<;>rw [u_]at h)
   ·(refine a_ (qu_ hp hn (by first|decide|omega) (by first|decide|omega)) rfl (okP hA) ⟨?_,trivial⟩;intro ws hw;rcases hw with ⟨v,n,rfl,hv,hn⟩)
    exact Q_ (x:=.mk _ _ _ _ _ _ _ _ _ [.mk _ _ _ _ _ _ _ _ _ []]) rfl (f7 _ hv) hn
   ·(refine a_ (qu_ hp hn (by first|decide|omega) (by first|decide|omega)) rfl (okP hA) ⟨?_,trivial⟩;intro ws hw;rcases hw with ⟨v,n,rfl,hv,hn⟩);((have e4:v=0\/v=1\/v=2\/v=3:=by omega);rcases e4 with rfl|rfl|rfl|rfl)
    all_goals refine VOK_lt rfl rfl (vA_ rfl rfl rfl ?_);(first
                                                               |exact Q_ (x:=.mk 2 _ _ _ _ _ _ _ _ []) rfl (E_ (by decide)) hn
                                                               |exact Q_ (x:=.mk 1 _ _ _ _ _ _ _ _ []) rfl (et_ (by unfold sF_;omega) (by first|exact .inl rfl|exact .inr (.inl rfl)|exact .inr (.inr (.inl rfl))|exact .inr (.inr (.inr rfl)))) hn)
 (refine y_ rfl rfl (λh=>?_) (λh=>?_)<;>rw [u_]at h)
 ·(refine y_ rfl rfl (λh=>?_) (λh=>?_)<;>rw [u_]at h)
  ·(refine a_ (qu_ hp hn (by first|decide|omega) (by first|decide|omega)) rfl (okP hA) ⟨?_,trivial⟩;intro ws hw;rcases hw with ⟨v,n,rfl,hv,hn⟩);(first
                                                                                                                                                       |exact Q_ (x:=.mk 2 _ _ _ _ _ _ _ _ []) rfl (E_ (by decide)) hn
                                                                                                                                                       |exact Q_ (x:=.mk 1 _ _ _ _ _ _ _ _ []) rfl (et_ (by unfold sF_;omega) (by first|exact .inl rfl|exact .inr (.inl rfl)|exact .inr (.inr (.inl rfl))|exact .inr (.inr (.inr rfl)))) hn)
  ·(first
     |exact Q_ (x:=.mk 2 _ _ _ _ _ _ _ _ []) rfl (E_ (by decide)) hn
     |exact Q_ (x:=.mk 1 _ _ _ _ _ _ _ _ []) rfl (et_ (by unfold sF_;omega) (by first|exact .inl rfl|exact .inr (.inl rfl)|exact .inr (.inr (.inl rfl))|exact .inr (.inr (.inr rfl)))) hn)
 (refine y_ rfl rfl (λh=>?_) (λh=>?_)<;>rw [u_]at h)
 ·(refine y_ rfl rfl (λh=>?_) (λh=>?_)<;>rw [u_]at h)
  ·(first
     |exact Q_ (x:=.mk 2 _ _ _ _ _ _ _ _ []) rfl (E_ (by decide)) hn
     |exact Q_ (x:=.mk 1 _ _ _ _ _ _ _ _ []) rfl (et_ (by unfold sF_;omega) (by first|exact .inl rfl|exact .inr (.inl rfl)|exact .inr (.inr (.inl rfl))|exact .inr (.inr (.inr rfl)))) hn)
  ·(refine y_ rfl rfl (λh=>?_) (λh=>?_)<;>rw [u_]at h)
   ·(refine a_ (qu_ hp hn (by first|decide|omega) (by first|decide|omega)) rfl (okP hA) ⟨?_,trivial⟩;intro ws hw;rcases hw with ⟨v,n,rfl,hv,hn⟩);(first
                                                                                                                                                        |exact Q_ (x:=.mk 2 _ _ _ _ _ _ _ _ []) rfl (E_ (by decide)) hn
                                                                                                                                                        |exact Q_ (x:=.mk 1 _ _ _ _ _ _ _ _ []) rfl (et_ (by unfold sF_;omega) (by first|exact .inl rfl|exact .inr (.inl rfl)|exact .inr (.inr (.inl rfl))|exact .inr (.inr (.inr rfl)))) hn)
   ·(first
      |exact Q_ (x:=.mk 2 _ _ _ _ _ _ _ _ []) rfl (E_ (by decide)) hn
      |exact Q_ (x:=.mk 1 _ _ _ _ _ _ _ _ []) rfl (et_ (by unfold sF_;omega) (by first|exact .inl rfl|exact .inr (.inl rfl)|exact .inr (.inr (.inl rfl))|exact .inr (.inr (.inr rfl)))) hn)
 (refine y_ rfl rfl (λh=>?_) (λh=>?_)<;>rw [u_]at h)
 ·(refine a_ (qu_ hp hn (by first|decide|omega) (by first|decide|omega)) rfl (okP hA) ⟨?_,trivial⟩;intro ws hw;rcases hw with ⟨v,n,rfl,hv,hn⟩);((have e4:v=0\/v=1\/v=2\/v=3:=by omega);rcases e4 with rfl|rfl|rfl|rfl)
  all_goals refine VOK_lt rfl rfl (VOK_lt rfl rfl ?_);(first
                                                        |exact Q_ (x:=.mk 2 _ _ _ _ _ _ _ _ []) rfl (E_ (by decide)) hn
                                                        |exact Q_ (x:=.mk 1 _ _ _ _ _ _ _ _ []) rfl (et_ (by unfold sF_;omega) (by first|exact .inl rfl|exact .inr (.inl rfl)|exact .inr (.inr (.inl rfl))|exact .inr (.inr (.inr rfl)))) hn)
 ·(first
    |exact Q_ (x:=.mk 2 _ _ _ _ _ _ _ _ []) rfl (E_ (by decide)) hn
    |exact Q_ (x:=.mk 1 _ _ _ _ _ _ _ _ []) rfl (et_ (by unfold sF_;omega) (by first|exact .inl rfl|exact .inr (.inl rfl)|exact .inr (.inr (.inl rfl))|exact .inr (.inr (.inr rfl)))) hn)
theorem Eq_ {l:List UInt8} {a:AV} (hp:Pk l a) (d:Nat) (hd2:d<=100) (h83:PX l a 152 (d+1)) (h81:1<=d->PX l a 150 d):PX l a 150 (d+1):=by
 intro n k hn hk;have hA:=hp.1.ok wG_;refine vC_ (c:=F2_) (n:=300) (t:=ES_) mo ov rfl (λY _=>vX_ _) (by kernel_rfl) λY hf hg=>?_;unfold ES_
 (refine y_ rfl rfl (λh=>?_) (λh=>?_)<;>rw [u_]at h)
 ·(refine a_ (h83 _ _ hn (by first|decide|(simp only [decide_eq_true_eq,decide_eq_false_iff_not]at *; omega))) rfl (okQ hA) ⟨?_,trivial⟩;intro ws hw;obtain ⟨⟨op,kd,nm,fd,ad,nn,vk,vi,vf,args⟩,n,rfl,hx,hn⟩:=hw);exact Q_ (x:=.mk ..) rfl hx hn
 have hX:=h81 (by simp at h;omega)
 (refine a_ (qu_ hp hn (by first|decide|omega) (by first|decide|omega)) rfl (okP hA) ⟨?_,trivial⟩;intro ws hw;rcases hw with ⟨v,n,rfl,hv,hn⟩);(refine y_ rfl rfl (λh=>?_) (λh=>?_)<;>rw [u_]at h)
 ·(refine a_ (h83 _ _ hn (by first|decide|(simp only [decide_eq_true_eq,decide_eq_false_iff_not]at *; omega))) rfl (okQ hA) ⟨?_,trivial⟩;intro ws hw;obtain ⟨⟨op,kd,nm,fd,ad,nn,vk,vi,vf,args⟩,n,rfl,hx,hn⟩:=hw);exact Q_ (x:=.mk ..) rfl hx hn
 (refine y_ rfl rfl (λh=>?_) (λh=>?_)<;>rw [u_]at h)
 ·(refine a_ (qu_ hp hn (by first|decide|omega) (by first|decide|omega)) rfl (okP hA) ⟨?_,trivial⟩;intro ws hw;rcases hw with ⟨v,n,rfl,hv,hn⟩);(refine y_ rfl rfl (λh=>?_) (λh=>?_)<;>rw [u_]at h)
  ·(refine VOK_lt (R_ (z:=(d:Int)) (by omega) (by omega) (by omega)) rfl ?_);(refine a_ (hX _ _ hn (by first|decide|(simp only [decide_eq_true_eq,decide_eq_false_iff_not]at *; omega))) rfl (okQ hA) ⟨?_,trivial⟩;intro ws hw;obtain ⟨⟨op,kd,nm,fd,ad,nn,vk,vi,vf,args⟩,n,rfl,hx,hn⟩:=hw);(exact Q_ (x:=.mk _ _ _ _ _ _ _ _ _ [.mk ..]) rfl (xN_ (by first|decide|(refine .inr (.inr (.inr ⟨rfl,?_,?_⟩))<;>(simp only [decide_eq_true_eq,decide_eq_false_iff_not]at *; omega))) (by assumption)) hn)
  (refine y_ rfl rfl (λh=>?_) (λh=>?_)<;>rw [u_]at h)
  ·(refine a_ (qu_ hp hn (by first|decide|omega) (by first|decide|omega)) rfl (okP hA) ⟨?_,trivial⟩;intro ws hw;rcases hw with ⟨v,n,rfl,hv,hn⟩);(refine VOK_lt (q_ (by omega) (by omega)) rfl ?_);(refine VOK_lt (R_ (z:=(d:Int)) (by omega) (by omega) (by omega)) rfl ?_);(refine a_ (hX _ _ hn (by first|decide|(simp only [decide_eq_true_eq,decide_eq_false_iff_not]at *; omega))) rfl (okQ hA) ⟨?_,trivial⟩;intro ws hw;obtain ⟨⟨op,kd,nm,fd,ad,nn,vk,vi,vf,args⟩,n,rfl,hx,hn⟩:=hw);(refine VOK_lt (R_ (z:=(d:Int)) (by omega) (by omega) (by omega)) rfl ?_);(refine a_ (hX _ _ hn (by first|decide|(simp only [decide_eq_true_eq,decide_eq_false_iff_not]at *; omega))) rfl (okQ hA) ⟨?_,trivial⟩;intro ws hw;obtain ⟨⟨op,kd,nm,fd,ad,nn,vk,vi,vf,args⟩,n,rfl,hx,hn⟩:=hw);(exact Q_ (x:=.mk _ _ _ _ _ _ _ _ _ [.mk ..,.mk ..]) rfl (xO_ (by omega) (by assumption) (by assumption)) hn)
  ·(refine a_ (qu_ hp hn (by first|decide|omega) (by first|decide|omega)) rfl (okP hA) ⟨?_,trivial⟩;intro ws hw;rcases hw with ⟨v,n,rfl,hv,hn⟩);(refine VOK_lt (q_ (by omega) (by omega)) rfl ?_);(refine a_ (qu_ hp hn (by first|decide|omega) (by first|decide|omega)) rfl (okP hA) ⟨?_,trivial⟩;intro ws hw;rcases hw with ⟨v,n,rfl,hv,hn⟩);(refine VOK_lt (q_ (by omega) (by omega)) rfl ?_);(refine VOK_lt (R_ (z:=(d:Int)) (by omega) (by omega) (by omega)) rfl ?_);(refine a_ (hX _ _ hn (by first|decide|(simp only [decide_eq_true_eq,decide_eq_false_iff_not]at *; omega))) rfl (okQ hA) ⟨?_,trivial⟩;intro ws hw;obtain ⟨⟨op,kd,nm,fd,ad,nn,vk,vi,vf,args⟩,n,rfl,hx,hn⟩:=hw);(refine VOK_lt (R_ (z:=(d:Int)) (by omega) (by omega) (by omega)) rfl ?_);(refine a_ (hX _ _ hn (by first|decide|(simp only [decide_eq_true_eq,decide_eq_false_iff_not]at *; omega))) rfl (okQ hA) ⟨?_,trivial⟩;intro ws hw;obtain ⟨⟨op,kd,nm,fd,ad,nn,vk,vi,vf,args⟩,n,rfl,hx,hn⟩:=hw);(exact Q_ (x:=.mk _ _ _ _ _ _ _ _ _ [.mk ..,.mk ..]) rfl (xO_ (by omega) (by assumption) (by assumption)) hn)
 ·(refine a_ (qu_ hp hn (by first|decide|omega) (by first|decide|omega)) rfl (okP hA) ⟨?_,trivial⟩;intro ws hw;rcases hw with ⟨v,n,rfl,hv,hn⟩);(refine y_ rfl rfl (λh=>?_) (λh=>?_)<;>rw [u_]at h)
  ·(refine VOK_lt (R_ (z:=(d:Int)) (by omega) (by omega) (by omega)) rfl ?_);(refine a_ (hX _ _ hn (by first|decide|(simp only [decide_eq_true_eq,decide_eq_false_iff_not]at *; omega))) rfl (okQ hA) ⟨?_,trivial⟩;intro ws hw;obtain ⟨⟨op,kd,nm,fd,ad,nn,vk,vi,vf,args⟩,n,rfl,hx,hn⟩:=hw);(exact Q_ (x:=.mk _ _ _ _ _ _ _ _ _ [.mk ..]) rfl (xN_ (by first|decide|(refine .inr (.inr (.inr ⟨rfl,?_,?_⟩))<;>(simp only [decide_eq_true_eq,decide_eq_false_iff_not]at *; omega))) (by assumption)) hn)
  (refine y_ rfl rfl (λh=>?_) (λh=>?_)<;>rw [u_]at h)
  ·(refine a_ (qu_ hp hn (by first|decide|omega) (by first|decide|omega)) rfl (okP hA) ⟨?_,trivial⟩;intro ws hw;rcases hw with ⟨v,n,rfl,hv,hn⟩);(refine VOK_lt (q_ (by omega) (by omega)) rfl ?_);(refine VOK_lt (R_ (z:=(d:Int)) (by omega) (by omega) (by omega)) rfl ?_);(refine a_ (hX _ _ hn (by first|decide|(simp only [decide_eq_true_eq,decide_eq_false_iff_not]at *; omega))) rfl (okQ hA) ⟨?_,trivial⟩;intro ws hw;obtain ⟨⟨op,kd,nm,fd,ad,nn,vk,vi,vf,args⟩,n,rfl,hx,hn⟩:=hw);(exact Q_ (x:=.mk _ _ _ _ _ _ _ _ _ [.mk ..]) rfl (xN_ (by first|decide|(refine .inr (.inr (.inr ⟨rfl,?_,?_⟩))<;>(simp only [decide_eq_true_eq,decide_eq_false_iff_not]at *; omega))) (by assumption)) hn)
  (refine y_ rfl rfl (λh=>?_) (λh=>?_)<;>rw [u_]at h)
  ·(refine y_ rfl rfl (λh=>?_) (λh=>?_)<;>rw [u_]at h)
   ·(refine VOK_lt (R_ (z:=(d:Int)) (by omega) (by omega) (by omega)) rfl ?_);(refine a_ (hX _ _ hn (by first|decide|(simp only [decide_eq_true_eq,decide_eq_false_iff_not]at *; omega))) rfl (okQ hA) ⟨?_,trivial⟩;intro ws hw;obtain ⟨⟨op,kd,nm,fd,ad,nn,vk,vi,vf,args⟩,n,rfl,hx,hn⟩:=hw);(refine VOK_lt (R_ (z:=(d:Int)) (by omega) (by omega) (by omega)) rfl ?_);(refine a_ (hX _ _ hn (by first|decide|(simp only [decide_eq_true_eq,decide_eq_false_iff_not]at *; omega))) rfl (okQ hA) ⟨?_,trivial⟩;intro ws hw;obtain ⟨⟨op,kd,nm,fd,ad,nn,vk,vi,vf,args⟩,n,rfl,hx,hn⟩:=hw);(exact Q_ (x:=.mk _ _ _ _ _ _ _ _ _ [.mk ..,.mk ..]) rfl (xO_ (by omega) (by assumption) (by assumption)) hn)
   ·(refine a_ (qu_ hp hn (by first|decide|omega) (by first|decide|omega)) rfl (okP hA) ⟨?_,trivial⟩;intro ws hw;rcases hw with ⟨v,n,rfl,hv,hn⟩);(refine VOK_lt (q_ (by omega) (by omega)) rfl ?_);(refine VOK_lt (R_ (z:=(d:Int)) (by omega) (by omega) (by omega)) rfl ?_);(refine a_ (hX _ _ hn (by first|decide|(simp only [decide_eq_true_eq,decide_eq_false_iff_not]at *; omega))) rfl (okQ hA) ⟨?_,trivial⟩;intro ws hw;obtain ⟨⟨op,kd,nm,fd,ad,nn,vk,vi,vf,args⟩,n,rfl,hx,hn⟩:=hw);(refine VOK_lt (R_ (z:=(d:Int)) (by omega) (by omega) (by omega)) rfl ?_);(refine a_ (hX _ _ hn (by first|decide|(simp only [decide_eq_true_eq,decide_eq_false_iff_not]at *; omega))) rfl (okQ hA) ⟨?_,trivial⟩;intro ws hw;obtain ⟨⟨op,kd,nm,fd,ad,nn,vk,vi,vf,args⟩,n,rfl,hx,hn⟩:=hw);(exact Q_ (x:=.mk _ _ _ _ _ _ _ _ _ [.mk ..,.mk ..]) rfl (xO_ (by omega) (by assumption) (by assumption)) hn)
  ·(refine a_ (qu_ hp hn (by first|decide|omega) (by first|decide|omega)) rfl (okP hA) ⟨?_,trivial⟩;intro ws hw;rcases hw with ⟨v,n,rfl,hv,hn⟩);(refine VOK_lt (q_ (by omega) (by omega)) rfl ?_);(refine VOK_lt (R_ (z:=(d:Int)) (by omega) (by omega) (by omega)) rfl ?_);(refine a_ (hX _ _ hn (by first|decide|(simp only [decide_eq_true_eq,decide_eq_false_iff_not]at *; omega))) rfl (okQ hA) ⟨?_,trivial⟩;intro ws hw;obtain ⟨⟨op,kd,nm,fd,ad,nn,vk,vi,vf,args⟩,n,rfl,hx,hn⟩:=hw);(refine VOK_lt (R_ (z:=(d:Int)) (by omega) (by omega) (by omega)) rfl ?_);(refine a_ (hX _ _ hn (by first|decide|(simp only [decide_eq_true_eq,decide_eq_false_iff_not]at *; omega))) rfl (okQ hA) ⟨?_,trivial⟩;intro ws hw;obtain ⟨⟨op,kd,nm,fd,ad,nn,vk,vi,vf,args⟩,n,rfl,hx,hn⟩:=hw);(exact Q_ (x:=.mk _ _ _ _ _ _ _ _ _ [.mk ..,.mk ..]) rfl (xO_ (by omega) (by assumption) (by assumption)) hn)
theorem pX {l:List UInt8} {a:AV} (hp:Pk l a):∀d:Nat,d<=100->PX l a 152 (d+1)/\PX l a 150 (d+1)
 |0,h=>by have h1:=Er_ hp 0 h (λh=>by omega);exact ⟨h1,Eq_ hp 0 h h1 (λh=>by omega)⟩
 |d+1,h=>by have ih:=pX hp d (by omega);have h1:=Er_ hp (d+1) h (λ_=>ih.2);exact ⟨h1,Eq_ hp (d+1) h h1 (λ_=>ih.2)⟩
end Go.Proofs.YtelnbodnjmldeaaGreat.vars
set_option maxRecDepth 100000
set_option linter.unusedVariables false
set_option linter.unusedSimpArgs false
namespace Go.Proofs.YtelnbodnjmldeaaGreat.vars
open Go Go.Sx
def RS (l:List UInt8) (d:Nat):Nat->List AV->Prop:=λ_ ws=>∃(x:GS) (n:Nat),ws=s7_ x++[.int .i64 (n:Int)]/\WS d x/\n<=l.length
def RB (l:List UInt8) (d m:Nat):Nat->List AV->Prop:=λ_ ws=>∃(x:List GS) (n:Nat),ws=[Z_ x,.int .i64 (n:Int)]/\(x.length<=m/\∀s∈x,WS d s)/\n<=l.length
def PS (l:List UInt8) (a:AV) (d:Nat):Prop:=∀n:Nat,n<=l.length->CF Tryz.prog 98 ft98 [a,.int .i64 (n:Int),.int .i64 (d:Int)] (RS l (d+1))
def PB (l:List UInt8) (a:AV) (d:Nat):Prop:=∀(n m:Nat),n<=l.length->1<=m->m<=10->CF Tryz.prog 55 ft55 [a,.int .i64 (n:Int),.int .i64 (m:Int),.int .i64 (d:Int)] (RB l (d+1) m)
theorem Ed_ (x:GS) (n:Int):okL (s7_ x++[.int .i64 n])=true:=kY_.okL_join (okS x) rfl
theorem sq_ {l:List UInt8} {d n j:Nat} {x:GS} {hv:List AV} {Y:Sy} {L:List (Nat->List AV->Prop)} (h:ab_ Y.v hv=s7_ x++[.int .i64 (n:Int)]) (hw:WS d x) (hn:n<=l.length):VOK Tryz.prog (QF (RS l d)) L Y (.done (.tup (.int .i64 (.ofNat j)::hv))):=
 VOK_fin (by rw [h];exact Ed_ x n) ⟨x,n,h,hw,hn⟩
theorem ud_ {d:Nat} {to e:GX} (h1:WX 5 to) (h2:to.op=2\/to.op=3) (h3:WX 5 e):WS (d+1) (.mk 1 to e [] [] [] 0 0 []):=.inl ⟨rfl,h1,h2,h_ (by omega) h3,rfl,rfl⟩
theorem U_ {d:Nat} {to e:GX} {nm:List UInt8} {kd ad:Int} {args:List GX} (h0:nm=[116,109]\/nm=[99]\/nm=[101]) (h1:args.length<=2) (h2:∀a∈args,WX 5 a):WS (d+1) (.mk 4 to e [] [] nm kd ad args):=.inr (.inr ⟨rfl,h0,h1,h2,rfl,rfl⟩)
theorem y6_ {d:Nat} {op:Int} {to e:GX} {thn els:List GS} {nm:List UInt8} {kd ad:Int} {args:List GX} (h1:op=2\/op=3) (h:WX 5 e) (h2:thn.length<=5) (h3:els.length<=5) (h4:∀s∈thn,WS d s) (h5:∀s∈els,WS d s):WS (d+1) (.mk op to e thn els nm kd ad args):=.inr (.inl ⟨h1,h,h2,h3,h4,h5⟩)
theorem z7_ {x:GX} (h:WX 5 x):∀a∈[x],WX 5 a:=λa ha=>by cases List.mem_singleton.1 ha;exact h
theorem x8_ {x y:GX} (h:WX 5 x) (h2:WX 5 y):∀a∈[x,y],WX 5 a:=λa ha=>by rcases List.mem_cons.1 ha with rfl|ha;exact h;exact z7_ h2 a ha
theorem wa_ {s:List UInt8} (h:(s,[])∈w5_):WX 5 (.mk 2 0 s [] 0 0 0 0 0 []):=E_ h
def F3_:VC:=⟨⟨[],[]⟩,[],[],0,true,[]⟩
def ET_:VT:=.done (.agg [J 2,J 0,64,.str [],J 0,J 0,J 0,J 0,.flt .f64 0,.nsl])
def F5_:VC:=⟨⟨[],[]⟩,[],[],0,true,[]⟩
def EV_:VT:=.done (.agg [J 1,J 0,.str [],.str [],J 0,J 0,64,65,66,.nsl])
theorem xr_ (s:List UInt8):jD_ Tryz.prog 151 [.str s] (.agg (v_ (.mk 2 0 s [] 0 0 0 0 0 []))):=by refine uk_ (sh:=[none]) (ls:=[.str s]) (c:=F3_) (n:=300) (t:=ET_) mo ov rfl rfl rfl (λY _=>vX_ _) rfl (by kernel_rfl) λY hf hg=>?_;unfold ET_;exact uX_ rfl
theorem Es_:jD_ Tryz.prog 153 [.agg [.int .i64 3,.int .i64 1,.flt .f64 0]] (.agg (v_ (.mk 1 0 [] [] 0 0 3 1 0 []))):=by refine uk_ (sh:=[some 3]) (ls:=[.int .i64 3,.int .i64 1,.flt .f64 0]) (c:=F5_) (n:=300) (t:=EV_) mo ov rfl rfl rfl (λY _=>vX_ _) rfl (by kernel_rfl) λY hf hg=>?_;unfold EV_;exact uX_ rfl
def c98:VC:=⟨⟨[],[]⟩,[(151,[(some 10)]),(153,[(some 10)])],[],1,true,[(46,ft46),(150,o_),(152,wj_),(55,ft55)]⟩
def t98:VT:=Cf 46 ft46 [64,65,J 12] 67 2<|Iq 70 0 72 (It Qb [66,J 0] 73 (Cf 150 o_ [64,71,J 1,J 3] 74 11<|Li Qj [66,J 1] 89<|Cf 55 ft55 [64,88,J 2,89] 90 2<|Cf 46 ft46 [64,95,J 2] 96 2<|Iq 99 0 101 (Li Qj [66,J 1] 102<|Cf 55 ft55 [64,100,J 2,102] 103 2<|Dn [J 2,J 0,J 0,.str [],.str [],J 0,J 0,J 0,J 0,.flt .f64 0,.nsl,78,79,80,81,82,83,84,85,86,87,94,107,.str [],J 0,J 0,.nsl,108])<|Dn [J 2,J 0,J 0,.str [],.str [],J 0,J 0,J 0,J 0,.flt .f64 0,.nsl,78,79,80,81,82,83,84,85,86,87,94,.nsl,.str [],J 0,J 0,.nsl,100])<|Iq 70 1 74 (It Qb [66,J 0] 75 (.call 151 [.str [120]] 76 [(some 10)]<|Cf 152 wj_ [64,71,J 2,J 1] 86 11<|Li Qj [66,J 1] 101<|Cf 55 ft55 [64,100,J 1,101] 102 2<|.call 151 [.str [120]] 108 [(some 10)]<|.call 151 [.str [120]] 118 [(some 10)]<|.call 153 [.agg [J 3,J 1,.flt .f64 0]] 128 [(some 10)]<|Li Zm [106,.agg [J 1,108,109,110,111,112,113,114,115,116,117,J 4,J 0,.str [],.str [],J 0,J 0,J 0,J 0,.flt .f64 0,.vsl 2 10 [118,119,120,121,122,123,124,125,126,127,128,129,130,131,132,133,134,135,136,137],.nsl,.nsl,.str [],J 0,J 0,.nsl]] 138<|Dn [J 3,J 0,J 0,.str [],.str [],J 0,J 0,J 0,J 0,.flt .f64 0,.nsl,J 11,J 0,.str [],.str [],J 0,J 0,J 0,J 0,.flt .f64 0,.vsl 2 10 [76,77,78,79,80,81,82,83,84,85,90,91,92,93,94,95,96,97,98,99],138,.nsl,.str [],J 0,J 0,.nsl,107])<|Iq 70 2 76 (Cf 150 o_ [64,71,J 1,J 2] 77 11<|Cf 150 o_ [64,91,J 4,J 2] 92 11<|Dn [J 4,J 0,J 0,.str [],.str [],J 0,J 0,J 0,J 0,.flt .f64 0,.nsl,J 0,J 0,.str [],.str [],J 0,J 0,J 0,J 0,.flt .f64 0,.nsl,.nsl,.nsl,.str [116,109],J 0,J 0,.vsl 2 10 [81,82,83,84,85,86,87,88,89,90,96,97,98,99,100,101,102,103,104,105],106])<|Iq 70 3 77 (Cf 150 o_ [64,71,J 1,J 2] 78 11<|Cf 152 wj_ [64,92,J 2,J 1] 93 11<|Dn [J 4,J 0,J 0,.str [],.str [],J 0,J 0,J 0,J 0,.flt .f64 0,.nsl,J 0,J 0,.str [],.str [],J 0,J 0,J 0,J 0,.flt .f64 0,.nsl,.nsl,.nsl,.str [99],J 0,J 0,.vsl 2 10 [82,83,84,85,86,87,88,89,90,91,97,98,99,100,101,102,103,104,105,106],107])<|Iq 70 4 78 (Cf 150 o_ [64,71,J 1,J 2] 79 11<|Dn [J 4,J 0,J 0,.str [],.str [],J 0,J 0,J 0,J 0,.flt .f64 0,.nsl,J 0,J 0,.str [],.str [],J 0,J 0,J 0,J 0,.flt .f64 0,.nsl,.nsl,.nsl,.str [101],J 0,J 0,.vsl 1 10 [83,84,85,86,87,88,89,90,91,92],93])<|Iq 70 5 79 (Cf 150 o_ [64,71,J 2,J 2] 80 11<|Cf 150 o_ [64,94,J 2,J 3] 95 11<|Dn [J 1,J 3,J 0,.str [107],.str [],J 0,J 0,J 0,J 0,.flt .f64 0,.vsl 1 10 [84,85,86,87,88,89,90,91,92,93],99,100,101,102,103,104,105,106,107,108,.nsl,.nsl,.str [],J 0,J 0,.nsl,109])<|Cf 46 ft46 [64,71,J 6] 80 2<|Li Zn [.vsl 6 1 [.str [111],.str [120],.str [113],.str [121],.str [122],.str [119]],83] 85<|Li Zo [85] 86<|Li Zp [86] 87<|.call 151 [86] 88 [(some 10)]<|Cf 150 o_ [64,84,87,J 4] 98 11<|Dn [J 1,88,89,90,91,92,93,94,95,96,97,102,103,104,105,106,107,108,109,110,111,.nsl,.nsl,.str [],J 0,J 0,.nsl,112])<|Iq 70 2 75 (Cf 150 o_ [64,71,J 1,J 2] 76 11<|Cf 150 o_ [64,90,J 4,J 2] 91 11<|Dn [J 4,J 0,J 0,.str [],.str [],J 0,J 0,J 0,J 0,.flt .f64 0,.nsl,J 0,J 0,.str [],.str [],J 0,J 0,J 0,J 0,.flt .f64 0,.nsl,.nsl,.nsl,.str [116,109],J 0,J 0,.vsl 2 10 [80,81,82,83,84,85,86,87,88,89,95,96,97,98,99,100,101,102,103,104],105])<|Iq 70 3 76 (Cf 150 o_ [64,71,J 1,J 2] 77 11<|Cf 152 wj_ [64,91,J 2,J 1] 92 11<|Dn [J 4,J 0,J 0,.str [],.str [],J 0,J 0,J 0,J 0,.flt .f64 0,.nsl,J 0,J 0,.str [],.str [],J 0,J 0,J 0,J 0,.flt .f64 0,.nsl,.nsl,.nsl,.str [99],J 0,J 0,.vsl 2 10 [81,82,83,84,85,86,87,88,89,90,96,97,98,99,100,101,102,103,104,105],106])<|Iq 70 4 77 (Cf 150 o_ [64,71,J 1,J 2] 78 11<|Dn [J 4,J 0,J 0,.str [],.str [],J 0,J 0,J 0,J 0,.flt .f64 0,.nsl,J 0,J 0,.str [],.str [],J 0,J 0,J 0,J 0,.flt .f64 0,.nsl,.nsl,.nsl,.str [101],J 0,J 0,.vsl 1 10 [82,83,84,85,86,87,88,89,90,91],92])<|Iq 70 5 78 (Cf 150 o_ [64,71,J 2,J 2] 79 11<|Cf 150 o_ [64,93,J 2,J 3] 94 11<|Dn [J 1,J 3,J 0,.str [107],.str [],J 0,J 0,J 0,J 0,.flt .f64 0,.vsl 1 10 [83,84,85,86,87,88,89,90,91,92],98,99,100,101,102,103,104,105,106,107,.nsl,.nsl,.str [],J 0,J 0,.nsl,108])<|Cf 46 ft46 [64,71,J 6] 79 2<|Li Zn [.vsl 6 1 [.str [111],.str [120],.str [113],.str [121],.str [122],.str [119]],82] 84<|Li Zo [84] 85<|Li Zp [85] 86<|.call 151 [85] 87 [(some 10)]<|Cf 150 o_ [64,83,86,J 4] 97 11<|Dn [J 1,87,88,89,90,91,92,93,94,95,96,101,102,103,104,105,106,107,108,109,110,.nsl,.nsl,.str [],J 0,J 0,.nsl,111])<|Iq 70 1 73 (It Qb [66,J 0] 74 (.call 151 [.str [120]] 75 [(some 10)]<|Cf 152 wj_ [64,71,J 2,J 1] 85 11<|Li Qj [66,J 1] 100<|Cf 55 ft55 [64,99,J 1,100] 101 2<|.call 151 [.str [120]] 107 [(some 10)]<|.call 151 [.str [120]] 117 [(some 10)]<|.call 153 [.agg [J 3,J 1,.flt .f64 0]] 127 [(some 10)]<|Li Zm [105,.agg [J 1,107,108,109,110,111,112,113,114,115,116,J 4,J 0,.str [],.str [],J 0,J 0,J 0,J 0,.flt .f64 0,.vsl 2 10 [117,118,119,120,121,122,123,124,125,126,127,128,129,130,131,132,133,134,135,136],.nsl,.nsl,.str [],J 0,J 0,.nsl]] 137<|Dn [J 3,J 0,J 0,.str [],.str [],J 0,J 0,J 0,J 0,.flt .f64 0,.nsl,J 11,J 0,.str [],.str [],J 0,J 0,J 0,J 0,.flt .f64 0,.vsl 2 10 [75,76,77,78,79,80,81,82,83,84,89,90,91,92,93,94,95,96,97,98],137,.nsl,.str [],J 0,J 0,.nsl,106])<|Iq 70 2 75 (Cf 150 o_ [64,71,J 1,J 2] 76 11<|Cf 150 o_ [64,90,J 4,J 2] 91 11<|Dn [J 4,J 0,J 0,.str [],.str [],J 0,J 0,J 0,J 0,.flt .f64 0,.nsl,J 0,J 0,.str [],.str [],J 0,J 0,J 0,J 0,.flt .f64 0,.nsl,.nsl,.nsl,.str [116,109],J 0,J 0,.vsl 2 10 [80,81,82,83,84,85,86,87,88,89,95,96,97,98,99,100,101,102,103,104],105])<|Iq 70 3 76 (Cf 150 o_ [64,71,J 1,J 2] 77 11<|Cf 152 wj_ [64,91,J 2,J 1] 92 11<|Dn [J 4,J 0,J 0,.str [],.str [],J 0,J 0,J 0,J 0,.flt .f64 0,.nsl,J 0,J 0,.str [],.str [],J 0,J 0,J 0,J 0,.flt .f64 0,.nsl,.nsl,.nsl,.str [99],J 0,J 0,.vsl 2 10 [81,82,83,84,85,86,87,88,89,90,96,97,98,99,100,101,102,103,104,105],106])<|Iq 70 4 77 (Cf 150 o_ [64,71,J 1,J 2] 78 11<|Dn [J 4,J 0,J 0,.str [],.str [],J 0,J 0,J 0,J 0,.flt .f64 0,.nsl,J 0,J 0,.str [],.str [],J 0,J 0,J 0,J 0,.flt .f64 0,.nsl,.nsl,.nsl,.str [101],J 0,J 0,.vsl 1 10 [82,83,84,85,86,87,88,89,90,91],92])<|Iq 70 5 78 (Cf 150 o_ [64,71,J 2,J 2] 79 11<|Cf 150 o_ [64,93,J 2,J 3] 94 11<|Dn [J 1,J 3,J 0,.str [107],.str [],J 0,J 0,J 0,J 0,.flt .f64 0,.vsl 1 10 [83,84,85,86,87,88,89,90,91,92],98,99,100,101,102,103,104,105,106,107,.nsl,.nsl,.str [],J 0,J 0,.nsl,108])<|Cf 46 ft46 [64,71,J 6] 79 2<|Li Zn [.vsl 6 1 [.str [111],.str [120],.str [113],.str [121],.str [122],.str [119]],82] 84<|Li Zo [84] 85<|Li Zp [85] 86<|.call 151 [85] 87 [(some 10)]<|Cf 150 o_ [64,83,86,J 4] 97 11<|Dn [J 1,87,88,89,90,91,92,93,94,95,96,101,102,103,104,105,106,107,108,109,110,.nsl,.nsl,.str [],J 0,J 0,.nsl,111])<|Iq 70 2 74 (Cf 150 o_ [64,71,J 1,J 2] 75 11<|Cf 150 o_ [64,89,J 4,J 2] 90 11<|Dn [J 4,J 0,J 0,.str [],.str [],J 0,J 0,J 0,J 0,.flt .f64 0,.nsl,J 0,J 0,.str [],.str [],J 0,J 0,J 0,J 0,.flt .f64 0,.nsl,.nsl,.nsl,.str [116,109],J 0,J 0,.vsl 2 10 [79,80,81,82,83,84,85,86,87,88,94,95,96,97,98,99,100,101,102,103],104])<|Iq 70 3 75 (Cf 150 o_ [64,71,J 1,J 2] 76 11<|Cf 152 wj_ [64,90,J 2,J 1] 91 11<|Dn [J 4,J 0,J 0,.str [],.str [],J 0,J 0,J 0,J 0,.flt .f64 0,.nsl,J 0,J 0,.str [],.str [],J 0,J 0,J 0,J 0,.flt .f64 0,.nsl,.nsl,.nsl,.str [99],J 0,J 0,.vsl 2 10 [80,81,82,83,84,85,86,87,88,89,95,96,97,98,99,100,101,102,103,104],105])<|Iq 70 4 76 (Cf 150 o_ [64,71,J 1,J 2] 77 11<|Dn [J 4,J 0,J 0,.str [],.str [],J 0,J 0,J 0,J 0,.flt .f64 0,.nsl,J 0,J 0,.str [],.str [],J 0,J 0,J 0,J 0,.flt .f64 0,.nsl,.nsl,.nsl,.str [101],J 0,J 0,.vsl 1 10 [81,82,83,84,85,86,87,88,89,90],91])<|Iq 70 5 77 (Cf 150 o_ [64,71,J 2,J 2] 78 11<|Cf 150 o_ [64,92,J 2,J 3] 93 11<|Dn [J 1,J 3,J 0,.str [107],.str [],J 0,J 0,J 0,J 0,.flt .f64 0,.vsl 1 10 [82,83,84,85,86,87,88,89,90,91],97,98,99,100,101,102,103,104,105,106,.nsl,.nsl,.str [],J 0,J 0,.nsl,107])<|Cf 46 ft46 [64,71,J 6] 78 2<|Li Zn [.vsl 6 1 [.str [111],.str [120],.str [113],.str [121],.str [122],.str [119]],81] 83<|Li Zo [83] 84<|Li Zp [84] 85<|.call 151 [84] 86 [(some 10)]<|Cf 150 o_ [64,82,85,J 4] 96 11<|Dn [J 1,86,87,88,89,90,91,92,93,94,95,100,101,102,103,104,105,106,107,108,109,.nsl,.nsl,.str [],J 0,J 0,.nsl,110]
def c55:VC:=⟨⟨[],[]⟩,[],[(0,[⟨[(8,.slx 0 0 0),(2,67),(0,.ptr 0 0),(7,.slx 1 27 1)],[(0,[64,.slx 2 0 0])],2,3,[⟨1,27,1,7,none⟩],[],[]⟩])],1,true,[(46,ft46),(98,ft98)]⟩
def t55:VT:=Cf 46 ft46 [64,65,66] 68 2<|Li Q3 [71,J 1] 73<|.loop 74 0 [73,.nsl,72] (.cons 3 (It Qb [74,J 0] 77 (Cf 98 ft98 [64,76,67] 78 28<|Li Zm [75,.agg [81,82,83,84,85,86,87,88,89,90,91,92,93,94,95,96,97,98,99,100,101,102,103,104,105,106,107]] 109<|Li Qj [74,J 1] 110<|.again 0 0 [110,109,108])<|Dn [75,76]) .nil)
theorem wb_ (l:List GS) (s:GS) (hl:l.length<=1000):(XOp.app 27 336).run Tryz.prog [Z_ l,.agg (s7_ s)]=some (Z_ (l++[s])):=by rw [wZ_,wZ_];exact un_ CW_ (by decide) (by decide) l s (by omega)
theorem okR {a:AV} (h:okC a=true) {n m k:Int}:okL [a,.int .i64 n,.int .i64 m,.int .i64 k]=true:=by simp only [okL,okC,h]
theorem p98 {l:List UInt8} {a:AV} (hp:Pk l a) (d:Nat) (hd2:d<=100) (hB:∀e,d=e+1->PB l a e):PS l a d:=by
 intro n hn;have hA:=hp.1.ok wG_;have h2:∀(n:Nat) (k:Int),n<=l.length->1<=k/\k<=5->CF Tryz.prog 150 ftX [a,.int .i64 (n:Int),.int .i64 k,.int .i64 2] (RX l 2):=(pX hp 1 (by decide)).2;have h3:∀(n:Nat) (k:Int),n<=l.length->1<=k/\k<=5->CF Tryz.prog 150 ftX [a,.int .i64 (n:Int),.int .i64 k,.int .i64 3] (RX l 3):=(pX hp 2 (by decide)).2;have h4:∀(n:Nat) (k:Int),n<=l.length->1<=k/\k<=5->CF Tryz.prog 150 ftX [a,.int .i64 (n:Int),.int .i64 k,.int .i64 4] (RX l 4):=(pX hp 3 (by decide)).2;have h31:∀(n:Nat) (k:Int),n<=l.length->1<=k/\k<=5->CF Tryz.prog 152 ftX [a,.int .i64 (n:Int),.int .i64 k,.int .i64 1] (RX l 1):=(pX hp 0 (by decide)).1;refine vC_ (c:=c98) (n:=300) (t:=t98) mo ov rfl (λY _=>vX_ _) (by kernel_rfl) λY hf hg=>?_;unfold t98
 (refine a_ (qu_ hp hn (by first|decide|omega) (by first|decide|omega)) rfl (okP hA) ⟨?_,trivial⟩;intro ws hw;rcases hw with ⟨v,n,rfl,hv,hn⟩)
 (refine y_ rfl rfl (λh=>?_) (λh=>?_)<;>rw [u_]at h)
 ·(refine y_ rfl rfl (λh=>?_) (λh=>?_)<;>rw [u_]at h)
  .obtain ⟨e,rfl⟩:∃e,d=e+1:=⟨d-1,by simp at h;omega⟩;have hB:=hB e rfl
   (refine a_ (h3 _ _ hn (by decide)) rfl (okQ hA) ⟨?_,trivial⟩;intro ws hw;obtain ⟨⟨op,kd,nm,fd,ad,nn,vk,vi,vf,args⟩,n,rfl,hx,hn⟩:=hw;replace hx:=h_ (e:=5) (by decide) hx)
   refine VOK_lt (R_ (z:=(e:Int)) (by omega) (by omega) (by omega)) rfl ?_;refine a_ (hB _ 2 hn (by decide) (by decide)) rfl (okR hA) ⟨?_,trivial⟩;rintro ws ⟨thn,n,rfl,⟨ht,hts⟩,hn⟩
   (refine a_ (qu_ hp hn (by first|decide|omega) (by first|decide|omega)) rfl (okP hA) ⟨?_,trivial⟩;intro ws hw;rcases hw with ⟨v,n,rfl,hv,hn⟩)
   (refine y_ rfl rfl (λh=>?_) (λh=>?_)<;>rw [u_]at h)
   refine VOK_lt (R_ (z:=(e:Int)) (by omega) (by omega) (by omega)) rfl ?_;refine a_ (hB _ 2 hn (by decide) (by decide)) rfl (okR hA) ⟨?_,trivial⟩;rintro ws ⟨els,n,rfl,⟨he,hes⟩,hn⟩;exact sq_ (x:=.mk _ (.mk _ _ _ _ _ _ _ _ _ []) (.mk ..) thn els _ _ _ []) rfl (y6_ (.inl rfl) (by assumption) (by omega) (by omega) hts hes) hn;exact sq_ (x:=.mk _ (.mk _ _ _ _ _ _ _ _ _ []) (.mk ..) thn [] _ _ _ []) rfl (y6_ (.inl rfl) (by assumption) (by omega) (by decide) hts (λs hs=>(za' hs).elim)) hn
  ·(
    (refine y_ rfl rfl (λh=>?_) (λh=>?_)<;>rw [u_]at h)
    ·(refine y_ rfl rfl (λh=>?_) (λh=>?_)<;>rw [u_]at h)
     .obtain ⟨e,rfl⟩:∃e,d=e+1:=⟨d-1,by simp at h;omega⟩;have hB:=hB e rfl;refine uW_ (xr_ _) rfl rfl ?_
      (refine a_ (h31 _ _ hn (by first|decide|(simp only [decide_eq_true_eq,decide_eq_false_iff_not]at *; omega))) rfl (okQ hA) ⟨?_,trivial⟩;intro ws hw;obtain ⟨⟨op,kd,nm,fd,ad,nn,vk,vi,vf,args⟩,n,rfl,hx,hn⟩:=hw)
      refine VOK_lt (R_ (z:=(e:Int)) (by omega) (by omega) (by omega)) rfl ?_;refine a_ (hB _ 1 hn (by decide) (by decide)) rfl (okR hA) ⟨?_,trivial⟩;rintro ws ⟨thn,n,rfl,⟨ht,hts⟩,hn⟩;refine uW_ (xr_ _) rfl rfl (uW_ (xr_ _) rfl rfl (uW_ Es_ rfl rfl ?_));refine VOK_lt (wb_ thn (.mk 1 (.mk _ _ _ _ _ _ _ _ _ []) (.mk _ _ _ _ _ _ _ _ _ [.mk _ _ _ _ _ _ _ _ _ [],.mk _ _ _ _ _ _ _ _ _ []]) [] [] _ _ _ []) (by omega)) (okB _) ?_;refine sq_ (x:=.mk _ (.mk _ _ _ _ _ _ _ _ _ []) (.mk _ _ _ _ _ _ _ _ _ [.mk _ _ _ _ _ _ _ _ _ [],.mk ..]) (thn++[_]) [] _ _ _ []) rfl (y6_ (.inr rfl) ?_ ?_ (by decide) ?_ (λs hs=>(za' hs).elim)) hn;exact xO_ (by decide) (E_ (by decide)) (h_ (e:=4) (by decide) hx);rw [List.length_append];simp;omega;intro s hs;rcases List.mem_append.1 hs with hs|hs;exact hts s hs;cases List.mem_singleton.1 hs;exact ud_ (wa_ (by decide)) (.inl rfl) (xO_ (by decide) (E_ (by decide)) (et_ (by unfold sF_;omega) (.inl rfl)))
     ·(
       (refine y_ rfl rfl (λh=>?_) (λh=>?_)<;>rw [u_]at h)
       ·(refine a_ (h2 _ _ hn (by decide)) rfl (okQ hA) ⟨?_,trivial⟩;intro ws hw;obtain ⟨⟨op,kd,nm,fd,ad,nn,vk,vi,vf,args⟩,n,rfl,hx,hn⟩:=hw;replace hx:=h_ (e:=5) (by decide) hx);(refine a_ (h2 _ _ hn (by decide)) rfl (okQ hA) ⟨?_,trivial⟩;intro ws hw;obtain ⟨⟨op,kd,nm,fd,ad,nn,vk,vi,vf,args⟩,n,rfl,hx,hn⟩:=hw;replace hx:=h_ (e:=5) (by decide) hx);exact sq_ (x:=.mk _ (.mk _ _ _ _ _ _ _ _ _ []) (.mk _ _ _ _ _ _ _ _ _ []) [] [] _ _ _ [.mk ..,.mk ..]) rfl (U_ (by decide) (by simp) (x8_ (by assumption) (by assumption))) hn
       (refine y_ rfl rfl (λh=>?_) (λh=>?_)<;>rw [u_]at h)
       ·(refine a_ (h2 _ _ hn (by decide)) rfl (okQ hA) ⟨?_,trivial⟩;intro ws hw;obtain ⟨⟨op,kd,nm,fd,ad,nn,vk,vi,vf,args⟩,n,rfl,hx,hn⟩:=hw;replace hx:=h_ (e:=5) (by decide) hx);(refine a_ (h31 _ _ hn (by decide)) rfl (okQ hA) ⟨?_,trivial⟩;intro ws hw;obtain ⟨⟨op,kd,nm,fd,ad,nn,vk,vi,vf,args⟩,n,rfl,hx,hn⟩:=hw;replace hx:=h_ (e:=5) (by decide) hx);exact sq_ (x:=.mk _ (.mk _ _ _ _ _ _ _ _ _ []) (.mk _ _ _ _ _ _ _ _ _ []) [] [] _ _ _ [.mk ..,.mk ..]) rfl (U_ (by decide) (by simp) (x8_ (by assumption) (by assumption))) hn
       (refine y_ rfl rfl (λh=>?_) (λh=>?_)<;>rw [u_]at h)
       ·(refine a_ (h2 _ _ hn (by decide)) rfl (okQ hA) ⟨?_,trivial⟩;intro ws hw;obtain ⟨⟨op,kd,nm,fd,ad,nn,vk,vi,vf,args⟩,n,rfl,hx,hn⟩:=hw;replace hx:=h_ (e:=5) (by decide) hx);exact sq_ (x:=.mk _ (.mk _ _ _ _ _ _ _ _ _ []) (.mk _ _ _ _ _ _ _ _ _ []) [] [] _ _ _ [.mk ..]) rfl (U_ (by decide) (by simp) (z7_ (by assumption))) hn
       (refine y_ rfl rfl (λh=>?_) (λh=>?_)<;>rw [u_]at h)
       ·(refine a_ (h2 _ _ hn (by first|decide|(simp only [decide_eq_true_eq,decide_eq_false_iff_not]at *; omega))) rfl (okQ hA) ⟨?_,trivial⟩;intro ws hw;obtain ⟨⟨op,kd,nm,fd,ad,nn,vk,vi,vf,args⟩,n,rfl,hx,hn⟩:=hw);rename WX _ _=>hx0;(refine a_ (h3 _ _ hn (by decide)) rfl (okQ hA) ⟨?_,trivial⟩;intro ws hw;obtain ⟨⟨op,kd,nm,fd,ad,nn,vk,vi,vf,args⟩,n,rfl,hx,hn⟩:=hw;replace hx:=h_ (e:=5) (by decide) hx)
        exact sq_ (x:=.mk _ (.mk _ _ _ _ _ _ _ _ _ [.mk ..]) (.mk ..) [] [] _ _ _ []) rfl (ud_ (h_ (d:=4) (by decide) (xN_ (by decide) hx0)) (.inr rfl) (by assumption)) hn
       ·(refine a_ (qu_ hp hn (by first|decide|omega) (by first|decide|omega)) rfl (okP hA) ⟨?_,trivial⟩;intro ws hw;rcases hw with ⟨v,n,rfl,hv,hn⟩)
        have e6:v=0\/v=1\/v=2\/v=3\/v=4\/v=5:=(by omega);rcases e6 with rfl|rfl|rfl|rfl|rfl|rfl;all_goals
         refine VOK_lt rfl rfl (VOK_lt rfl rfl (VOK_lt rfl rfl (uW_ (xr_ _) rfl rfl ?_)))
         (refine a_ (h4 _ _ hn (by decide)) rfl (okQ hA) ⟨?_,trivial⟩;intro ws hw;obtain ⟨⟨op,kd,nm,fd,ad,nn,vk,vi,vf,args⟩,n,rfl,hx,hn⟩:=hw;replace hx:=h_ (e:=5) (by decide) hx)
         exact sq_ (x:=.mk _ (.mk _ _ _ _ _ _ _ _ _ []) (.mk ..) [] [] _ _ _ []) rfl (ud_ (wa_ (by decide)) (.inl rfl) (by assumption)) hn)
    ·(
      (refine y_ rfl rfl (λh=>?_) (λh=>?_)<;>rw [u_]at h)
      ·(refine a_ (h2 _ _ hn (by decide)) rfl (okQ hA) ⟨?_,trivial⟩;intro ws hw;obtain ⟨⟨op,kd,nm,fd,ad,nn,vk,vi,vf,args⟩,n,rfl,hx,hn⟩:=hw;replace hx:=h_ (e:=5) (by decide) hx);(refine a_ (h2 _ _ hn (by decide)) rfl (okQ hA) ⟨?_,trivial⟩;intro ws hw;obtain ⟨⟨op,kd,nm,fd,ad,nn,vk,vi,vf,args⟩,n,rfl,hx,hn⟩:=hw;replace hx:=h_ (e:=5) (by decide) hx);exact sq_ (x:=.mk _ (.mk _ _ _ _ _ _ _ _ _ []) (.mk _ _ _ _ _ _ _ _ _ []) [] [] _ _ _ [.mk ..,.mk ..]) rfl (U_ (by decide) (by simp) (x8_ (by assumption) (by assumption))) hn
      (refine y_ rfl rfl (λh=>?_) (λh=>?_)<;>rw [u_]at h)
      ·(refine a_ (h2 _ _ hn (by decide)) rfl (okQ hA) ⟨?_,trivial⟩;intro ws hw;obtain ⟨⟨op,kd,nm,fd,ad,nn,vk,vi,vf,args⟩,n,rfl,hx,hn⟩:=hw;replace hx:=h_ (e:=5) (by decide) hx);(refine a_ (h31 _ _ hn (by decide)) rfl (okQ hA) ⟨?_,trivial⟩;intro ws hw;obtain ⟨⟨op,kd,nm,fd,ad,nn,vk,vi,vf,args⟩,n,rfl,hx,hn⟩:=hw;replace hx:=h_ (e:=5) (by decide) hx);exact sq_ (x:=.mk _ (.mk _ _ _ _ _ _ _ _ _ []) (.mk _ _ _ _ _ _ _ _ _ []) [] [] _ _ _ [.mk ..,.mk ..]) rfl (U_ (by decide) (by simp) (x8_ (by assumption) (by assumption))) hn
      (refine y_ rfl rfl (λh=>?_) (λh=>?_)<;>rw [u_]at h)
      ·(refine a_ (h2 _ _ hn (by decide)) rfl (okQ hA) ⟨?_,trivial⟩;intro ws hw;obtain ⟨⟨op,kd,nm,fd,ad,nn,vk,vi,vf,args⟩,n,rfl,hx,hn⟩:=hw;replace hx:=h_ (e:=5) (by decide) hx);exact sq_ (x:=.mk _ (.mk _ _ _ _ _ _ _ _ _ []) (.mk _ _ _ _ _ _ _ _ _ []) [] [] _ _ _ [.mk ..]) rfl (U_ (by decide) (by simp) (z7_ (by assumption))) hn
      (refine y_ rfl rfl (λh=>?_) (λh=>?_)<;>rw [u_]at h)
      ·(refine a_ (h2 _ _ hn (by first|decide|(simp only [decide_eq_true_eq,decide_eq_false_iff_not]at *; omega))) rfl (okQ hA) ⟨?_,trivial⟩;intro ws hw;obtain ⟨⟨op,kd,nm,fd,ad,nn,vk,vi,vf,args⟩,n,rfl,hx,hn⟩:=hw);rename WX _ _=>hx0;(refine a_ (h3 _ _ hn (by decide)) rfl (okQ hA) ⟨?_,trivial⟩;intro ws hw;obtain ⟨⟨op,kd,nm,fd,ad,nn,vk,vi,vf,args⟩,n,rfl,hx,hn⟩:=hw;replace hx:=h_ (e:=5) (by decide) hx)
       exact sq_ (x:=.mk _ (.mk _ _ _ _ _ _ _ _ _ [.mk ..]) (.mk ..) [] [] _ _ _ []) rfl (ud_ (h_ (d:=4) (by decide) (xN_ (by decide) hx0)) (.inr rfl) (by assumption)) hn
      ·(refine a_ (qu_ hp hn (by first|decide|omega) (by first|decide|omega)) rfl (okP hA) ⟨?_,trivial⟩;intro ws hw;rcases hw with ⟨v,n,rfl,hv,hn⟩)
       have e6:v=0\/v=1\/v=2\/v=3\/v=4\/v=5:=(by omega);rcases e6 with rfl|rfl|rfl|rfl|rfl|rfl;all_goals
        refine VOK_lt rfl rfl (VOK_lt rfl rfl (VOK_lt rfl rfl (uW_ (xr_ _) rfl rfl ?_)))
        (refine a_ (h4 _ _ hn (by decide)) rfl (okQ hA) ⟨?_,trivial⟩;intro ws hw;obtain ⟨⟨op,kd,nm,fd,ad,nn,vk,vi,vf,args⟩,n,rfl,hx,hn⟩:=hw;replace hx:=h_ (e:=5) (by decide) hx)
        exact sq_ (x:=.mk _ (.mk _ _ _ _ _ _ _ _ _ []) (.mk ..) [] [] _ _ _ []) rfl (ud_ (wa_ (by decide)) (.inl rfl) (by assumption)) hn))
 ·(
   (refine y_ rfl rfl (λh=>?_) (λh=>?_)<;>rw [u_]at h)
   ·(refine y_ rfl rfl (λh=>?_) (λh=>?_)<;>rw [u_]at h)
    .obtain ⟨e,rfl⟩:∃e,d=e+1:=⟨d-1,by simp at h;omega⟩;have hB:=hB e rfl;refine uW_ (xr_ _) rfl rfl ?_
     (refine a_ (h31 _ _ hn (by first|decide|(simp only [decide_eq_true_eq,decide_eq_false_iff_not]at *; omega))) rfl (okQ hA) ⟨?_,trivial⟩;intro ws hw;obtain ⟨⟨op,kd,nm,fd,ad,nn,vk,vi,vf,args⟩,n,rfl,hx,hn⟩:=hw)
     refine VOK_lt (R_ (z:=(e:Int)) (by omega) (by omega) (by omega)) rfl ?_;refine a_ (hB _ 1 hn (by decide) (by decide)) rfl (okR hA) ⟨?_,trivial⟩;rintro ws ⟨thn,n,rfl,⟨ht,hts⟩,hn⟩;refine uW_ (xr_ _) rfl rfl (uW_ (xr_ _) rfl rfl (uW_ Es_ rfl rfl ?_));refine VOK_lt (wb_ thn (.mk 1 (.mk _ _ _ _ _ _ _ _ _ []) (.mk _ _ _ _ _ _ _ _ _ [.mk _ _ _ _ _ _ _ _ _ [],.mk _ _ _ _ _ _ _ _ _ []]) [] [] _ _ _ []) (by omega)) (okB _) ?_;refine sq_ (x:=.mk _ (.mk _ _ _ _ _ _ _ _ _ []) (.mk _ _ _ _ _ _ _ _ _ [.mk _ _ _ _ _ _ _ _ _ [],.mk ..]) (thn++[_]) [] _ _ _ []) rfl (y6_ (.inr rfl) ?_ ?_ (by decide) ?_ (λs hs=>(za' hs).elim)) hn;exact xO_ (by decide) (E_ (by decide)) (h_ (e:=4) (by decide) hx);rw [List.length_append];simp;omega;intro s hs;rcases List.mem_append.1 hs with hs|hs;exact hts s hs;cases List.mem_singleton.1 hs;exact ud_ (wa_ (by decide)) (.inl rfl) (xO_ (by decide) (E_ (by decide)) (et_ (by unfold sF_;omega) (.inl rfl)))
    ·(
      (refine y_ rfl rfl (λh=>?_) (λh=>?_)<;>rw [u_]at h)
      ·(refine a_ (h2 _ _ hn (by decide)) rfl (okQ hA) ⟨?_,trivial⟩;intro ws hw;obtain ⟨⟨op,kd,nm,fd,ad,nn,vk,vi,vf,args⟩,n,rfl,hx,hn⟩:=hw;replace hx:=h_ (e:=5) (by decide) hx);(refine a_ (h2 _ _ hn (by decide)) rfl (okQ hA) ⟨?_,trivial⟩;intro ws hw;obtain ⟨⟨op,kd,nm,fd,ad,nn,vk,vi,vf,args⟩,n,rfl,hx,hn⟩:=hw;replace hx:=h_ (e:=5) (by decide) hx);exact sq_ (x:=.mk _ (.mk _ _ _ _ _ _ _ _ _ []) (.mk _ _ _ _ _ _ _ _ _ []) [] [] _ _ _ [.mk ..,.mk ..]) rfl (U_ (by decide) (by simp) (x8_ (by assumption) (by assumption))) hn
      (refine y_ rfl rfl (λh=>?_) (λh=>?_)<;>rw [u_]at h)
      ·(refine a_ (h2 _ _ hn (by decide)) rfl (okQ hA) ⟨?_,trivial⟩;intro ws hw;obtain ⟨⟨op,kd,nm,fd,ad,nn,vk,vi,vf,args⟩,n,rfl,hx,hn⟩:=hw;replace hx:=h_ (e:=5) (by decide) hx);(refine a_ (h31 _ _ hn (by decide)) rfl (okQ hA) ⟨?_,trivial⟩;intro ws hw;obtain ⟨⟨op,kd,nm,fd,ad,nn,vk,vi,vf,args⟩,n,rfl,hx,hn⟩:=hw;replace hx:=h_ (e:=5) (by decide) hx);exact sq_ (x:=.mk _ (.mk _ _ _ _ _ _ _ _ _ []) (.mk _ _ _ _ _ _ _ _ _ []) [] [] _ _ _ [.mk ..,.mk ..]) rfl (U_ (by decide) (by simp) (x8_ (by assumption) (by assumption))) hn
      (refine y_ rfl rfl (λh=>?_) (λh=>?_)<;>rw [u_]at h)
      ·(refine a_ (h2 _ _ hn (by decide)) rfl (okQ hA) ⟨?_,trivial⟩;intro ws hw;obtain ⟨⟨op,kd,nm,fd,ad,nn,vk,vi,vf,args⟩,n,rfl,hx,hn⟩:=hw;replace hx:=h_ (e:=5) (by decide) hx);exact sq_ (x:=.mk _ (.mk _ _ _ _ _ _ _ _ _ []) (.mk _ _ _ _ _ _ _ _ _ []) [] [] _ _ _ [.mk ..]) rfl (U_ (by decide) (by simp) (z7_ (by assumption))) hn
      (refine y_ rfl rfl (λh=>?_) (λh=>?_)<;>rw [u_]at h)
      ·(refine a_ (h2 _ _ hn (by first|decide|(simp only [decide_eq_true_eq,decide_eq_false_iff_not]at *; omega))) rfl (okQ hA) ⟨?_,trivial⟩;intro ws hw;obtain ⟨⟨op,kd,nm,fd,ad,nn,vk,vi,vf,args⟩,n,rfl,hx,hn⟩:=hw);rename WX _ _=>hx0;(refine a_ (h3 _ _ hn (by decide)) rfl (okQ hA) ⟨?_,trivial⟩;intro ws hw;obtain ⟨⟨op,kd,nm,fd,ad,nn,vk,vi,vf,args⟩,n,rfl,hx,hn⟩:=hw;replace hx:=h_ (e:=5) (by decide) hx)
       exact sq_ (x:=.mk _ (.mk _ _ _ _ _ _ _ _ _ [.mk ..]) (.mk ..) [] [] _ _ _ []) rfl (ud_ (h_ (d:=4) (by decide) (xN_ (by decide) hx0)) (.inr rfl) (by assumption)) hn
      ·(refine a_ (qu_ hp hn (by first|decide|omega) (by first|decide|omega)) rfl (okP hA) ⟨?_,trivial⟩;intro ws hw;rcases hw with ⟨v,n,rfl,hv,hn⟩)
       have e6:v=0\/v=1\/v=2\/v=3\/v=4\/v=5:=(by omega);rcases e6 with rfl|rfl|rfl|rfl|rfl|rfl;all_goals
        refine VOK_lt rfl rfl (VOK_lt rfl rfl (VOK_lt rfl rfl (uW_ (xr_ _) rfl rfl ?_)))
        (refine a_ (h4 _ _ hn (by decide)) rfl (okQ hA) ⟨?_,trivial⟩;intro ws hw;obtain ⟨⟨op,kd,nm,fd,ad,nn,vk,vi,vf,args⟩,n,rfl,hx,hn⟩:=hw;replace hx:=h_ (e:=5) (by decide) hx)
        exact sq_ (x:=.mk _ (.mk _ _ _ _ _ _ _ _ _ []) (.mk ..) [] [] _ _ _ []) rfl (ud_ (wa_ (by decide)) (.inl rfl) (by assumption)) hn)
   ·(
     (refine y_ rfl rfl (λh=>?_) (λh=>?_)<;>rw [u_]at h)
     ·(refine a_ (h2 _ _ hn (by decide)) rfl (okQ hA) ⟨?_,trivial⟩;intro ws hw;obtain ⟨⟨op,kd,nm,fd,ad,nn,vk,vi,vf,args⟩,n,rfl,hx,hn⟩:=hw;replace hx:=h_ (e:=5) (by decide) hx);(refine a_ (h2 _ _ hn (by decide)) rfl (okQ hA) ⟨?_,trivial⟩;intro ws hw;obtain ⟨⟨op,kd,nm,fd,ad,nn,vk,vi,vf,args⟩,n,rfl,hx,hn⟩:=hw;replace hx:=h_ (e:=5) (by decide) hx);exact sq_ (x:=.mk _ (.mk _ _ _ _ _ _ _ _ _ []) (.mk _ _ _ _ _ _ _ _ _ []) [] [] _ _ _ [.mk ..,.mk ..]) rfl (U_ (by decide) (by simp) (x8_ (by assumption) (by assumption))) hn
     (refine y_ rfl rfl (λh=>?_) (λh=>?_)<;>rw [u_]at h)
     ·(refine a_ (h2 _ _ hn (by decide)) rfl (okQ hA) ⟨?_,trivial⟩;intro ws hw;obtain ⟨⟨op,kd,nm,fd,ad,nn,vk,vi,vf,args⟩,n,rfl,hx,hn⟩:=hw;replace hx:=h_ (e:=5) (by decide) hx);(refine a_ (h31 _ _ hn (by decide)) rfl (okQ hA) ⟨?_,trivial⟩;intro ws hw;obtain ⟨⟨op,kd,nm,fd,ad,nn,vk,vi,vf,args⟩,n,rfl,hx,hn⟩:=hw;replace hx:=h_ (e:=5) (by decide) hx);exact sq_ (x:=.mk _ (.mk _ _ _ _ _ _ _ _ _ []) (.mk _ _ _ _ _ _ _ _ _ []) [] [] _ _ _ [.mk ..,.mk ..]) rfl (U_ (by decide) (by simp) (x8_ (by assumption) (by assumption))) hn
     (refine y_ rfl rfl (λh=>?_) (λh=>?_)<;>rw [u_]at h)
     ·(refine a_ (h2 _ _ hn (by decide)) rfl (okQ hA) ⟨?_,trivial⟩;intro ws hw;obtain ⟨⟨op,kd,nm,fd,ad,nn,vk,vi,vf,args⟩,n,rfl,hx,hn⟩:=hw;replace hx:=h_ (e:=5) (by decide) hx);exact sq_ (x:=.mk _ (.mk _ _ _ _ _ _ _ _ _ []) (.mk _ _ _ _ _ _ _ _ _ []) [] [] _ _ _ [.mk ..]) rfl (U_ (by decide) (by simp) (z7_ (by assumption))) hn
     (refine y_ rfl rfl (λh=>?_) (λh=>?_)<;>rw [u_]at h)
     ·(refine a_ (h2 _ _ hn (by first|decide|(simp only [decide_eq_true_eq,decide_eq_false_iff_not]at *; omega))) rfl (okQ hA) ⟨?_,trivial⟩;intro ws hw;obtain ⟨⟨op,kd,nm,fd,ad,nn,vk,vi,vf,args⟩,n,rfl,hx,hn⟩:=hw);rename WX _ _=>hx0;(refine a_ (h3 _ _ hn (by decide)) rfl (okQ hA) ⟨?_,trivial⟩;intro ws hw;obtain ⟨⟨op,kd,nm,fd,ad,nn,vk,vi,vf,args⟩,n,rfl,hx,hn⟩:=hw;replace hx:=h_ (e:=5) (by decide) hx)
      exact sq_ (x:=.mk _ (.mk _ _ _ _ _ _ _ _ _ [.mk ..]) (.mk ..) [] [] _ _ _ []) rfl (ud_ (h_ (d:=4) (by decide) (xN_ (by decide) hx0)) (.inr rfl) (by assumption)) hn
     ·(refine a_ (qu_ hp hn (by first|decide|omega) (by first|decide|omega)) rfl (okP hA) ⟨?_,trivial⟩;intro ws hw;rcases hw with ⟨v,n,rfl,hv,hn⟩)
      have e6:v=0\/v=1\/v=2\/v=3\/v=4\/v=5:=(by omega);rcases e6 with rfl|rfl|rfl|rfl|rfl|rfl;all_goals
       refine VOK_lt rfl rfl (VOK_lt rfl rfl (VOK_lt rfl rfl (uW_ (xr_ _) rfl rfl ?_)))
       (refine a_ (h4 _ _ hn (by decide)) rfl (okQ hA) ⟨?_,trivial⟩;intro ws hw;obtain ⟨⟨op,kd,nm,fd,ad,nn,vk,vi,vf,args⟩,n,rfl,hx,hn⟩:=hw;replace hx:=h_ (e:=5) (by decide) hx)
       exact sq_ (x:=.mk _ (.mk _ _ _ _ _ _ _ _ _ []) (.mk ..) [] [] _ _ _ []) rfl (ud_ (wa_ (by decide)) (.inl rfl) (by assumption)) hn))
theorem p55 {l:List UInt8} {a:AV} (hp:Pk l a) (d:Nat) (hd2:d<=100) (hS:PS l a d):PB l a d:=by
 intro n m hn hm1 hm2;have hA:=hp.1.ok wG_;refine vC_ (c:=c55) (n:=300) (t:=t55) mo ov rfl (λY _=>vX_ _) (by kernel_rfl) λY hf hg=>?_;unfold t55
 (refine a_ (qu_ hp hn (by first|decide|omega) (by first|decide|omega)) rfl (okP hA) ⟨?_,trivial⟩;intro ws hw;rcases hw with ⟨v,n,rfl,hv,hn⟩)
 refine VOK_lt (q_ (by omega) (by omega)) rfl ?_;refine uY_ (ι:=Nat×List GS×Nat) (λx=>[.int .i64 (x.1:Int),Z_ x.2.1,.int .i64 (x.2.2:Int)]) (λx=>x.1+x.2.1.length<=m/\(∀s∈x.2.1,WS (d+1) s)/\x.2.2<=l.length) (λx=>x.1) (v+1,[],n)
  ⟨by simp;omega,λs hs=>(za' hs).elim,hn⟩ rfl (λx _=>by simp only [okL,okC,okB]) (λx y _ _ h=>by simp at h;omega) (λx hx=>?_)
 obtain ⟨i,ss,n⟩:=x;obtain ⟨h1,h2,hn⟩:=hx;simp only at h1 hn h2⊢
 (refine y_ rfl rfl (λh=>?_) (λh=>?_)<;>rw [u_]at h)
 refine a_ (hS _ hn) rfl (okP hA) ⟨?_,trivial⟩;rintro ws ⟨⟨op,⟨op1,kd1,nm1,fd1,ad1,nn1,vk1,vi1,vf1,args1⟩,⟨op2,kd2,nm2,fd2,ad2,nn2,vk2,vi2,vf2,B9_⟩,thn,els,nm,kd,ad,args⟩,n,rfl,hx,hn⟩;refine VOK_lt (wb_ ss (.mk op (.mk op1 kd1 nm1 fd1 ad1 nn1 vk1 vi1 vf1 args1) (.mk op2 kd2 nm2 fd2 ad2 nn2 vk2 vi2 vf2 B9_) thn els nm kd ad args) (by omega)) (okB _) ?_;obtain ⟨i,rfl⟩:∃e,i=e+1:=⟨i-1,by simp at h;omega⟩;refine VOK_lt (R_ (z:=(i:Int)) (by omega) (by omega) (by omega)) rfl ?_;refine uJ_ rfl ⟨(i,ss++[_],n),⟨?_,?_,hn⟩,rfl,by simp⟩;simp;omega;intro s hs;rcases List.mem_append.1 hs with hs|hs;exact h2 s hs;cases List.mem_singleton.1 hs;exact hx;exact VOK_fin (by show okL [Z_ ss,.int .i64 (n:Int)]=true;simp only [okL,okC,okB]) ⟨ss,n,rfl,⟨by omega,h2⟩,hn⟩
theorem pS {l:List UInt8} {a:AV} (hp:Pk l a):∀d:Nat,d<=100->PS l a d/\PB l a d
 |0,h=>by have h1:=p98 hp 0 h (λe h=>by omega);exact ⟨h1,p55 hp 0 h h1⟩
 |d+1,h=>by have ih:=pS hp d (by omega);have h1:=p98 hp (d+1) h (λe h=>by cases h;exact ih.2);exact ⟨h1,p55 hp (d+1) h h1⟩
end Go.Proofs.YtelnbodnjmldeaaGreat.vars
