/-
  A symbol as a number, a number as a value: short names for trees.
-/
import Derived.Test.YtelnbodnjmldeaaGreatSyK
import Derived.Test.YtelnbodnjmldeaaGreatRows
import Derived.KernelRfl
import Derived.Test.YtelnbodnjmldeaaGreatSxX
set_option linter.all false
set_option maxHeartbeats 1000000
open List renaming not_mem_nil→za'
open Nat renaming ble_eq_true_of_le→zb'
namespace Go.Proofs.YtelnbodnjmldeaaGreat.vars
open Go Go.Sx
abbrev Ψ:VT:=.done (.bool false)
abbrev Ω:VT:=.done (.bool true)
instance symN (n:Nat):OfNat AV n:=⟨.sym n⟩
abbrev J (n:Int):AV:=.int .i64 n
abbrev K (o:XOp) (a:List AV) (i:Nat) (t:VT):VT:=.lt o a i none t
abbrev Q0:XOp:=.bin .eql 3 false true
abbrev Li (o:XOp) (a:List AV) (n:Nat) (t:VT):VT:=.lt o a n none t
abbrev It (o:XOp) (a:List AV) (n:Nat) (A B:VT):VT:=.lt o a n none (.ite n A B)
abbrev Iq (i:Nat) (k:Int) (n:Nat) (A B:VT):VT:=.lt Q0 [.sym i,J k] n none (.ite n A B)
abbrev Dn (l:List AV):VT:=.done (.tup (J 0::l))
abbrev Cf (f:FuncId) (t:FT) (h:List AV) (n k:Nat) (b:VT):VT:=.callF f t h n (.cons k b .nil)
abbrev Q1:XOp:=.bin .neq 3 false true
abbrev Q2:XOp:=.inb
abbrev Q3:XOp:=.bin .add 3 false true
abbrev Q4:XOp:=.bin .geq 3 false true
abbrev Q5:XOp:=.bin .lss 3 false false
abbrev Q6:XOp:=.un .not
abbrev Q7:XOp:=.bin .neq 31 false true
abbrev Q8:XOp:=.bin .leq 3 false true
abbrev Q9:XOp:=.bin .eql 3 false false
abbrev Qa:XOp:=.bin .lss 3 false true
abbrev Qb:XOp:=.bin .gtr 3 false true
abbrev Qc:XOp:=.bin .neq 2 false true
abbrev Qd:XOp:=.bin .neq 3 false false
abbrev Qe:XOp:=.app 3 24
abbrev Qf:XOp:=.len 74
abbrev Qg:XOp:=.iaddr 106
abbrev Qh:XOp:=.len 106
abbrev Qi:XOp:=.len 30
abbrev Qj:XOp:=.bin .sub 3 false true
abbrev Qk:XOp:=.iaddr 30
abbrev Ql:XOp:=.ldx 3 10 1
abbrev Qm:XOp:=.load 108
abbrev Qn:XOp:=.load 3
abbrev Qo:XOp:=.app 10 112
abbrev Qp:XOp:=.ldx 3 1 0
abbrev Qq:XOp:=.bin .eql 2 false false
abbrev Qr:XOp:=.bin .add 3 false false
abbrev Qs:XOp:=.app 7 56
abbrev Qt:XOp:=.bin .eql 2 false true
abbrev Qu:XOp:=.bin .geq 2 false false
abbrev Qv:XOp:=.ldx 2 3 1
abbrev Qw:XOp:=.iaddr 34
abbrev Qx:XOp:=.ldx 62 3 0
abbrev Qy:XOp:=.load 68
abbrev Qz:XOp:=.len 34
abbrev Z0:XOp:=.conv 2 182
abbrev Z1:XOp:=.stx 62 3 0
abbrev Z2:XOp:=.bin .add 3 true false
abbrev Z3:XOp:=.bin .eql 31 false true
abbrev Z4:XOp:=.faddr 68 0
abbrev Z5:XOp:=.len 22
abbrev Z6:XOp:=.opn 21 3
abbrev Z7:XOp:=.bin .geq 3 false false
abbrev Z8:XOp:=.bin .lss 2 false true
abbrev Z9:XOp:=.load 2
abbrev Za:XOp:=.app 2 16
abbrev Zb:XOp:=.un .neg
abbrev Zc:XOp:=.load 62
abbrev Zd:XOp:=.faddr 62 1
abbrev Ze:XOp:=.faddr 108 1
abbrev Zf:XOp:=.bin .neq 60 false false
abbrev Zg:XOp:=.bin .sub 3 false false
abbrev Zh:XOp:=.bin .sub 2 false false
abbrev Zi:XOp:=.conv 5 3
abbrev Zj:XOp:=.bin .eql 34 false true
abbrev Zk:XOp:=.bin .add 2 false false
abbrev Zl:XOp:=.bin .rem 2 false false
abbrev Zm:XOp:=.app 27 336
abbrev Zn:XOp:=.iaddr 216
abbrev Zo:XOp:=.load 9
abbrev Zp:XOp:=.mget 217 [(.str [111],J 2,0),(.str [120],J 2,1),(.str [113],J 1,2),(.str [121],J 3,3),(.str [122],J 5,4),(.str [119],J 4,5)]
abbrev Zq:XOp:=.ldx 108 10 0
abbrev Zr:XOp:=.stx 108 10 0
abbrev Zs:XOp:=.len 25
abbrev Zt:XOp:=.bin .leq 3 false false
abbrev Zu:XOp:=.bin .gtr 3 false false
abbrev Zv:XOp:=.bin .eql 31 false false
abbrev Zw:XOp:=.iaddr 46
abbrev Zx:XOp:=.load 30
abbrev Zy:XOp:=.bin .leq 2 false false
abbrev Zz:XOp:=.conv 2 60
abbrev U0:XOp:=.bin .sub 182 false false
abbrev U1:XOp:=.mm false
abbrev U2:XOp:=.conv 182 2
abbrev U3:XOp:=.stx 3 7 2
abbrev U4:XOp:=.iaddr 25
abbrev U5:XOp:=.load 110
abbrev U8:XOp:=.flat 17 0 1 17
abbrev U9:XOp:=.bin .neq 31 false false
abbrev Ua:XOp:=.bin .neq 2 false false
abbrev Ub:XOp:=.bin .quo 2 false false
abbrev Uc:XOp:=.bin .lss 60 false false
abbrev Ui:XOp:=.bin .eql 182 false true
abbrev Uj:XOp:=.bin .neq 182 false true
abbrev Ut:XOp:=.bin .neq 4 false false
abbrev Uu:XOp:=.bin .lss 2 false false
abbrev Uv:XOp:=.bin .mul 2 false false
abbrev Uw:XOp:=.bin .add 60 false false
abbrev Ux:XOp:=.bin .sub 60 false false
abbrev Uy:XOp:=.bin .mul 60 false false
abbrev Uz:XOp:=.bin .quo 60 false false
abbrev G0:XOp:=.bin .eql 60 false false
abbrev G1:XOp:=.bin .leq 60 false false
abbrev G3:XOp:=.bin .gtr 2 false false
abbrev G4:XOp:=.bin .add 2 false true
abbrev G5:XOp:=.bin .eql 4 false false
abbrev G6:XOp:=.bin .gtr 182 false false
end Go.Proofs.YtelnbodnjmldeaaGreat.vars
namespace Go.Sx
section
variable {P:Program} {t:TypeId} {ti:TypeInfo} {α:Type} {enc:α->List AV} {w:Nat}
theorem Ur:∀(a xs b c:List AV),b.length=xs.length->Eo a.length xs (a++(b++c))=some (a++(xs++c))
 |[],[],[],c,_=>by cases c<;>rfl
 |[],x::xs,y::b,c,h=>by have ih:=Ur [] xs b c (by simpa using h);simp only [B2,AK,Bg]at ih⊢;simp only [Eo,ih]
 |[],x::xs,[],c,h=>by simp at h
 |[],[],y::b,c,h=>by simp at h
 |x::a,xs,b,c,h=>by simp only [Bg,List.length_cons,Eo,Ur a xs b c h]
def Sv (hw:∀a,(enc a).length=w) (l:List α) {i:Nat} (hi:i<l.length):∃a b,Ay enc l=a++(enc l[i]++b)/\a.length=i*w/\∀x,Ay enc (l.set i x)=a++(enc x++b):=by
 refine ⟨Ay enc (l.take i),Ay enc (l.drop (i+1)),?_,?_,λx=>?_⟩;have h1:l=l.take i++l[i]::l.drop (i+1):=(by rw [List.getElem_cons_drop,List.take_append_drop]);have h2:=congrArg (Ay enc) h1;rw [ID]at h2;exact h2
 .rw [Ei hw,LH];congr 1;omega
 rw [List.set_eq_take_append_cons_drop,Ad hi,ID];rfl
def Eu (hw:∀a,(enc a).length=w) {l:List α} {i:Nat} (hi:i<l.length) {off:Nat} {v:AV} {xs p q r:List AV} {y:α} (hc:v.cells=xs) (ho:v=.agg xs\/(∃k n,v=.int k n)) (hinf:P.info? t=some ti) (hs:ti.size=xs.length) (h1:Dc xs=true)
  (he:enc l[i]=p++(q++r)) (hp:p.length=off) (hq:q.length=xs.length) (hy:enc y=p++(xs++r)) (k:IntKind):(XOp.stx t w off).run P [Cv enc w l,.int k (i:Int),v]=some (Cv enc w (l.set i y)):=by
 obtain ⟨a,b,e1,e2,e3⟩:=Sv hw l hi;obtain ⟨x0,l',rfl⟩:∃x l',l=x::l':=by cases l with|nil=>simp at hi|cons x l'=>exact ⟨x,l',rfl⟩
 have Db:∃z l'',(x0::l').set i y=z::l''/\l''.length=l'.length:=by
  cases i with
  |zero=>exact ⟨y,l',rfl,rfl⟩
  |succ i=>exact ⟨x0,l'.set i y,rfl,by simp⟩
 obtain ⟨z,l'',e4,e5⟩:=Db;have hst:EU P (Ew (Ay enc (x0::l'))) t (.ptr 0 (i*w+off)) v=some (.tup [],(Ew (Ay enc (x0::l'))).set 0 (.cells (Ay enc ((x0::l').set i y)))):=by have hg:(Ew (Ay enc (x0::l'))).get 0=some (.cells (Ay enc (x0::l'))):=rfl;have hsa:Eo (i*w+off) xs (Ay enc (x0::l'))=some (Ay enc ((x0::l').set i y)):=(by have:=Ur (a++p) xs q (r++b) hq;rw [List.length_append,e2,hp]at this;rw [e1,he,e3,hy];simpa [Bo]using this);have hb:Nat.beq xs.length ti.size=true:=(by rw [hs];exact Nat.beq_refl _);rcases ho with rfl|⟨k',n,rfl⟩;simp only [EU,hinf];have hc':(AV.agg xs).cells=xs:=hc;simp only [hc',hb,h1,hg,hsa];simp only [EU,hinf];simp only [hc,hb,h1,hg,hsa]
 show (match EU P (Ew (Ay enc (x0::l'))) t (.ptr 0 (Nat.add (Nat.mul i w) off)) v with
  |some r=>match r.2.get 0 with
   |some (.cells cs')=>some (AV.vsl (l'.length+1) w cs')
   |_=>none
  |none=>none)=_
 have e6:Nat.add (Nat.mul i w) off=i*w+off:=rfl;rw [e6,hst];have hg2:∀c:List AV,((Ew (Ay enc (x0::l'))).set 0 (.cells c)).get 0=some (.cells c):=λc=>rfl;simp only [hg2];rw [e4];show _=some (AV.vsl (l''.length+1) w (Ay enc (z::l'')));rw [e5]
def OR {l:List α} {i:Nat} (hi:i<l.length) (k:IntKind):(XOp.inb).run P [Cv enc w l,.int k (i:Int)]=some (.int .i64 (i:Int)):=by
 cases l with
 |nil=>simp at hi
 |cons x r=>
  show (match Sx.idx (i:Int) (r.length+1)with|some n=>some (AV.int .i64 (.ofNat n))|none=>none)=_;have hb:Nat.blt i (r.length+1)=true:=(by simpa [Nat.blt_eq]using hi);have:Sx.idx (i:Int) (r.length+1)=some i:=by show (match Nat.blt i (r.length+1)with|true=>some i|false=>none)=some i;rw [hb]
  rw [this];rfl
end
theorem X0:∀{l:List AV},Ak l=true->Dc l=true
 |[],_=>rfl
 |a::r,h=>by rw [CA]at h;obtain ⟨h1,h2⟩:=Au h;have:a.one=true:=(by cases a<;>first|rfl|(simp [okC]at h1));simp only [Dc,this,X0 h2]
end Go.Sx
set_option maxRecDepth 100000
namespace Go.Sx
section
variable {P:Program} {t:TypeId} {ti:TypeInfo} {α:Type} {enc:α->List AV} {w:Nat}
def gX {m n:Nat} (h:m<n):Sx.idx (m:Int) n=some m:=by
 show (match Nat.blt m n with|true=>some m|false=>none)=some m;have hb:Nat.blt m n=true:=by simpa [Nat.blt_eq]using h
 rw [hb]
def Po {sz off es ln n m:Nat} {k k':IntKind} (h:m<ln):(XOp.flat sz off es ln).run P [.int k (n:Int),.int k' (m:Int)]=some (.int .i64 ((n*sz+off+m*es:Nat):Int)):=by show (match Sx.idx (m:Int) ln with|some m=>some (AV.int .i64 (.ofNat (Nat.add (Nat.add (Nat.mul n sz) off) (Nat.mul m es))))|none=>none)=_;rw [gX h];rfl
def P5 {l:List α} {i:Nat} (hi:i<l.length) (k:IntKind):(XOp.inb).run P [Ba enc w l,.int k (i:Int)]=some (.int .i64 (i:Int)):=by show (match Sx.idx (i:Int) l.length with|some n=>some (AV.int .i64 (.ofNat n))|none=>none)=_;rw [gX hi];rfl
def Rv {d:TypeDesc} (ht:P.underlying t=some d) (ha:Iy d=false) (hw:∀a,(enc a).length=w) {l:List α} {i off:Nat} (hi:i<l.length) {v:AV} (he:(enc l[i])[off]? =some v) {q:Nat} (hq:q=i*w+off) (k:IntKind):(XOp.ldx t 1 0).run P [Ba enc w l,.int k (q:Int)]=some v:=by
 obtain ⟨a,b,e1,e2,_⟩:=Sv hw l hi;subst hq;show Ds P (Ew (Ay enc l)) t (.ptr 0 ((i*w+off)*1+0))=_;unfold Ds;simp only [ht,ha];have hg:(Ew (Ay enc l)).get 0=some (.cells (Ay enc l)):=rfl;unfold DB;simp only [hg];obtain ⟨ho,hv⟩:=List.getElem?_eq_some_iff.1 he;have hd:Bk ((i*w+off)*1+0) (Ay enc l)=v::((enc l[i]).drop (off+1)++b):=by rw [Dh,e1,Nat.mul_one,Nat.add_zero,←e2,List.drop_append,List.drop_eq_nil_of_le (by omega),List.nil_append,Nat.add_sub_cancel_left,List.drop_append_of_le_length (by omega),C7 ho,hv];rfl
 rw [hd];rfl
def yT (hw:∀a,(enc a).length=w) {l:List α} {i off:Nat} (hi:i<l.length) {b:Bool} {y:α} (hinf:P.info? t=some ti) (hs:ti.size=1) (hoff:off<w) (hy:enc y=(enc l[i]).set off (.bool b)) {q:Nat} (hq:q=i*w+off) (k:IntKind):
  (XOp.stx t 1 0).run P [Ba enc w l,.int k (q:Int),.bool b]=some (Ba enc w (l.set i y)):=by
 obtain ⟨a,r,e1,e2,e3⟩:=Sv hw l hi;subst hq;have hl:=hw l[i];have hst:EU P (Ew (Ay enc l)) t (.ptr 0 ((i*w+off)*1+0)) (.bool b)=some (.tup [],(Ew (Ay enc l)).set 0 (.cells (Ay enc (l.set i y)))):=by have hg:(Ew (Ay enc l)).get 0=some (.cells (Ay enc l)):=rfl;have hsa:Eo ((i*w+off)*1+0) [.bool b] (Ay enc l)=some (Ay enc (l.set i y)):=(by obtain ⟨p,c,s,hps,hpl⟩:∃p c s,enc l[i]=p++c::s/\p.length=off:=⟨(enc l[i]).take off,(enc l[i])[off]'(by omega),(enc l[i]).drop (off+1),by rw [List.getElem_cons_drop,List.take_append_drop],by rw [List.length_take];omega⟩;have h1:=Ur (a++p) [.bool b] [c] (s++r) rfl;rw [List.length_append,e2,hpl]at h1;have hy2:enc y=p++ .bool b::s:=(by rw [hy,hps,←hpl];simp);rw [Nat.mul_one,Nat.add_zero,e1,e3,hy2,hps];have e4:a++(p++c::s++r)=a++p++([c]++(s++r)):=(by simp only [Bo,Bg,B2]);rw [e4,h1];simp only [Bo,Bg,B2]);have hb:Nat.beq [AV.bool b].length ti.size=true:=(by rw [hs];rfl);have h1:Dc [AV.bool b]=true:=rfl;have hc:(AV.bool b).cells=[.bool b]:=rfl;simp only [EU,hinf];simp only [hc,hb,h1,hg,hsa]
 show (match EU P (Ew (Ay enc l)) t (.ptr 0 (Nat.add (Nat.mul (i*w+off) 1) 0)) (.bool b)with
  |some r=>match r.2.get 0 with
   |some (.cells cs')=>some (AV.vsl l.length w cs')
   |_=>none
  |none=>none)=_
 have e6:Nat.add (Nat.mul (i*w+off) 1) 0=(i*w+off)*1+0:=rfl;rw [e6,hst];have hg2:∀c:List AV,((Ew (Ay enc l)).set 0 (.cells c)).get 0=some (.cells c):=λc=>rfl;simp only [hg2];show _=some (AV.vsl (l.set i y).length w _);rw [List.length_set]
def vR (hw:∀a,(enc a).length=w) (x:α) (l:List α) {k:IntKind}:XOp.skx.run P [Ba enc w (x::l),.int k 1]=some (Ba enc w l):=by
 show (match Nat.ble 1 (l.length+1)with|true=>some (AV.vsl (Nat.sub (l.length+1) 1) w (Bk (Nat.mul 1 w) (Ay enc (x::l))))|false=>none)=_;have hb:Nat.ble 1 (l.length+1)=true:=zb' (by omega);have hd:Bk (Nat.mul 1 w) (Ay enc (x::l))=Ay enc l:=by have e:Nat.mul 1 w=(enc x).length:=(by rw [hw];exact Nat.one_mul w);rw [Dh,e];show (enc x++Ay enc l).drop _=_;rw [List.drop_left]
 rw [hb,hd];rfl
def tC {sz bytes:Nat} {zs:List AV} {x:α} (hx:enc x=zs) {n:Nat} (h1:bytes*n<=16777216) (h2:n<=16777216) {k:IntKind}:(XOp.mkx sz bytes zs).run P [.int k (n:Int)]=some (Ba enc sz (List.replicate n x)):=by
 have b1:(Nat.ble (Nat.mul bytes n) 16777216&&Nat.ble n 16777216)=true:=by have q1:Nat.ble (Nat.mul bytes n) 16777216=true:=zb' h1;have q2:Nat.ble n 16777216=true:=zb' h2;rw [q1,q2];rfl
 show (match Nat.ble (Nat.mul bytes n) 16777216&&Nat.ble n 16777216 with|true=>some (AV.vsl n sz (CM zs n))|false=>none)=_;rw [b1];have:∀n:Nat,CM zs n=Ay enc (List.replicate n x):=by
  intro n
  induction n with
  |zero=>rfl
  |succ n ih=>rw [List.replicate_succ];show zs++CM zs n=enc x++Ay enc (List.replicate n x);rw [ih,hx]
 show some (AV.vsl n sz _)=some (AV.vsl (List.replicate n x).length sz _);rw [List.length_replicate,this]
end
end Go.Sx
namespace Go.Proofs.YtelnbodnjmldeaaGreat.vars
open Go Go.Sx
def hs:Nat->Nat->List AV
 |_,0=>[]
 |j,n+1=>.slx j 0 0::hs (j+1) n
def pk (a b:AV):Nat×List AV:=(0,[a,b])
def Bt:FT:=⟨1,⟨[(0,.ptr 0 0),(1,.slx 2 0 0)],[pk (.slx 0 0 0) (.slx 1 0 0)],1,3,[],[],[]⟩,[(false,⟨[(0,.slx 0 0 0)],[pk (.sym 64) (.slx 1 0 0)],1,2,[],[],[]⟩)]⟩
def LA:FT:=⟨1,⟨[(0,.ptr 0 0),(1,.slx 2 0 0),(2,.slx 3 0 0)],[pk (.slx 0 0 0) (.slx 1 0 0)],1,4,[],[],[]⟩,[(false,⟨[(0,.agg (hs 0 10))],[pk (.sym 64) (.slx 10 0 0)],1,11,[],[],[]⟩)]⟩
def r_:FT:=LA
def I0:FT:=LA
def Ly:FT:=⟨1,⟨[(0,.ptr 0 0),(1,.slx 2 0 0)],[pk (.slx 0 0 0) (.slx 1 0 0)],1,3,[],[],[]⟩,[(false,⟨[(0,.agg (hs 0 27))],[pk (.sym 64) (.slx 27 0 0)],1,28,[],[],[]⟩)]⟩
def E7:FT:=⟨1,⟨[(0,.ptr 0 0),(1,.slx 2 0 0),(2,.slx 3 0 0)],[pk (.slx 0 0 0) (.slx 1 0 0)],1,4,[],[],[]⟩,[(false,⟨[(0,.slx 1 27 0)],[pk (.sym 64) (.slx 1 0 0)],2,2,[⟨1,27,0,0,none⟩],[],[]⟩)]⟩
def LI:FT:=⟨1,⟨[(0,.ptr 0 0)],[pk (.slx 0 0 0) (.slx 1 0 0)],1,2,[],[],[]⟩,[(false,⟨[(0,.agg (hs 0 2))],[pk (.sym 64) (.slx 2 0 0)],1,3,[],[],[]⟩)]⟩
def LD:FT:=⟨0,⟨[(0,.slx 0 0 0)],[],0,1,[],[],[]⟩,[(false,⟨[(0,.ptr 0 0)],[pk (.sym 64) (.int .i64 0)],1,0,[],[],[]⟩)]⟩
def Bv:FT:=⟨0,⟨[(0,.slx 0 0 0),(1,.agg (hs 1 10))],[],0,11,[],[],[]⟩,[(false,⟨[(0,.tup [.agg (hs 0 10),.slx 10 0 0])],[],0,11,[],[],[]⟩)]⟩
def ZE:FT:=Bv
def F1:FT:=⟨0,⟨[(0,.slx 0 0 0),(1,.agg (hs 1 10)),(2,.slx 11 0 0)],[],0,12,[],[],[]⟩,[(false,⟨[(0,.tup [.agg (hs 0 10),.slx 10 0 0])],[],0,11,[],[],[]⟩)]⟩
def HC:FT:=⟨0,⟨[(0,.slx 0 0 0),(1,.agg (hs 1 27))],[],0,28,[],[],[]⟩,[(false,⟨[(0,.tup [.agg (hs 0 27),.slx 27 0 0])],[],0,28,[],[],[]⟩)]⟩
def ZQ:FT:=HC
def Xw:FT:=HC
def GF:FT:=⟨0,⟨[(0,.slx 0 0 0),(1,.slx 1 0 0)],[],0,2,[],[],[]⟩,[(false,⟨[(0,.tup [.slx 0 0 0,.slx 1 0 0])],[],0,2,[],[],[]⟩)]⟩
def MK:FT:=⟨0,⟨[(0,.agg (hs 0 2))],[],0,2,[],[],[]⟩,[(false,⟨[(0,.tup [.agg (hs 0 2),.slx 2 0 0])],[],0,3,[],[],[]⟩)]⟩
def WU:FT:=⟨0,⟨[(0,.slx 0 0 0)],[],0,1,[],[],[]⟩,[(false,⟨[(0,.tup [.agg (hs 0 2),.slx 2 0 0])],[],0,3,[],[],[]⟩)]⟩
def FP:FT:=⟨0,⟨[(0,.slx 0 7 0),(1,.slx 1 0 0)],[],1,2,[⟨0,7,0,0,none⟩],[],[]⟩,[(false,⟨[(0,.slx 0 7 0)],[],1,1,[⟨0,7,0,0,none⟩],[],[]⟩)]⟩
def Mj:FT:=⟨0,⟨[(0,.slx 0 7 0),(1,.agg (hs 1 27))],[],1,28,[⟨0,7,0,0,none⟩],[],[]⟩,[(false,⟨[(0,.slx 0 7 0)],[],1,1,[⟨0,7,0,0,none⟩],[],[]⟩)]⟩
def CD:FT:=⟨0,⟨[(0,.slx 0 0 0)],[],0,1,[],[],[]⟩,[(true,⟨[(0,.iface 268 (.agg [.slx 0 0 0]))],[],0,1,[],[],[]⟩)]⟩
def Cy:FT:=⟨0,⟨[(0,.slx 0 0 0),(1,.slx 1 0 0),(2,.slx 2 0 0)],[],0,3,[],[],[]⟩,[(false,⟨[(0,.slx 0 0 0)],[],0,1,[],[],[]⟩),(true,⟨[(0,.iface 268 (.agg [.slx 0 0 0]))],[],0,1,[],[],[]⟩)]⟩
def VI:FT:=Cy
def ftM (sl:List (Nat×AV)) (nv:Nat) (exs:List (Bool×Nat×AV)):FT:=⟨2,⟨(0,.ptr 0 0)::sl,[(0,[.slx 1 3 0,.slx 1 0 0,.slx 2 0 0])],2,nv+3,[⟨1,3,0,0,some 0⟩],[],[]⟩,
 exs.map λ(b,n,a)=>(b,⟨[(0,a)],[(0,[.ptx 1 64 3 0,.sym 65,.sym 66])],2,n,[],[],[(1,64)]⟩)⟩
def D5:FT:=⟨1,⟨[(0,.slx 0 3 0),(1,.slx 1 0 0),(2,.slx 2 0 0),(3,.slx 1 3 3),(4,.slx 4 0 0)],[],2,5,[⟨0,3,0,0,none⟩,⟨1,3,3,3,none⟩],[],[]⟩,[(false,⟨[(0,.tup [])],[],1,1,[],[],[(0,1503)]⟩)]⟩
def sy (n m:Nat):List AV:=Ae n m
def PO (kd ad:Int):List AV:=[.slx 0 3 64,.int .i64 kd,.int .i64 ad,.slx 1 3 67,.sym 68]
def EL:AHeap:=D5.ent.heap 64
def QM (kd off n w:Nat) (tm:Bool):FT:=⟨1,⟨[(0,.int .i64 (.ofNat kd)),(1,.sl 0 off n 3 none),(2,.slx 63 0 0),(3,.slx 64 0 0)]++(match tm with|true=>[(4,.slx 65 0 0)]|false=>[]),[(0,hs 0 63)],1,(match tm with|true=>66|false=>65),[],[],[]⟩,
 [(false,⟨[(0,.sl 1 0 n 3 none)],[(0,Ae 64 63),(1,hs 0 w)],2,w,[],[],[]⟩)]⟩
def IW:FT:=QM 6 36 4 12 true
def WD:FT:=QM 9 48 3 9 true
def aJ:FT:=QM 11 57 2 6 true
def IZ:FT:=QM 9 48 3 9 false
def IU:FT:=QM 11 57 2 6 false
def Ef:FT:=⟨0,⟨[(0,.slx 0 0 0)],[],0,1,[],[],[]⟩,[(false,⟨[(0,.slx 0 3 0)],[],1,1,[⟨0,3,0,0,none⟩],[],[]⟩)]⟩
def Xs:Nat->List AV
 |0=>[]
 |n+1=>.opq::Xs n
def WC (a b:AV):List AV:=[.slx 0 0 0,a,b,.slx 3 0 0,.slx 4 0 0,.slx 5 0 0,.slx 6 0 0]
def Ug (sl:List (Nat×AV)) (nv:Nat) (exs:List (Bool×Nat×AV)):FT:=⟨2,⟨(0,.ptr 0 0)::sl,[(0,WC (.slx 2 3 1) (.slx 1 3 2))],3,nv+7,[⟨2,3,1,0,some 1⟩,⟨1,3,2,0,some 2⟩],[],[]⟩,
 exs.map λ(b,n,a)=>match b with
  |true=>(true,⟨[(0,a)],[(0,Xs 7)],2,n,[],[],[(1,66)]⟩)
  |false=>(false,⟨[(0,a)],[(0,[.slx 0 0 0,.slx 2 3 1,.ptx 1 66 3 0,.slx 2 0 0,.slx 3 0 0,.slx 4 0 0,.slx 5 0 0])],3,n,[⟨2,3,1,0,some 1⟩],[],[(1,66)]⟩)⟩
def gE (sl:List (Nat×AV)) (nv:Nat) (exs:List (Bool×Nat×AV)):FT:=⟨1,⟨(0,.ptr 0 0)::sl,[(0,WC (.slx 1 3 1) (.slx 2 3 2))],3,nv+7,[⟨1,3,1,0,some 1⟩,⟨2,3,2,0,some 2⟩],[],[]⟩,
 exs.map λ(b,n,a)=>match b with
  |true=>(true,⟨[(0,a)],[(0,Xs 7)],1,n,[],[],[]⟩)
  |false=>(false,⟨[(0,a)],[(0,WC (.slx 1 3 1) (.slx 2 3 2))],3,n,[⟨1,3,1,0,some 1⟩,⟨2,3,2,0,some 2⟩],[],[]⟩)⟩
def FL:Bool×Nat×AV:=(true,1,.iface 185 (.agg [.slx 0 0 0]))
def O_:FT:=Ug [] 0 [(false,9,.agg (hs 6 3))]
def v_:FT:=Ug [(1,.agg (hs 7 3))] 3 [(false,6,.tup [])]
def V8:FT:=Ug [(1,.agg (hs 7 7))] 7 [(false,7,.slx 6 0 0),FL]
def NF:FT:=Ug [(1,.agg (hs 7 7))] 7 [(false,6,.tup []),FL]
def W2:FT:=NF
def IA:FT:=gE [(1,.agg (hs 7 7))] 7 [(false,7,.tup [])]
def YT:FT:=gE [(1,.agg (hs 7 7))] 7 [(false,8,.slx 7 0 0),FL]
def Bu:FT:=⟨0,⟨[(0,.slx 0 0 0)],[],0,1,[],[],[]⟩,[(false,⟨[(0,.tup [])],[],0,0,[],[],[]⟩),(true,⟨[(0,.iface 185 (.agg [.slx 0 0 0]))],[],0,1,[],[],[]⟩)]⟩
def UC (kd ad:Int):List AV:=[.ptr 0 0,.agg [.sym 71,.int .i64 kd,.int .i64 ad,.sym 74,.sym 75,.sym 76,.sym 77]]
def EB:AHeap:=IA.ent.heap 64
def JU:FT:=⟨0,⟨[(0,.slx 0 0 0),(1,.agg (hs 1 7))],[],0,8,[],[],[]⟩,[(false,⟨[(0,.agg (hs 0 7))],[],0,7,[],[],[]⟩)]⟩
def Y7:FT:=JU
def EY:FT:=⟨0,⟨[(0,.slx 0 0 0),(1,.slx 1 0 0)],[],0,2,[],[],[]⟩,[(false,⟨[(0,.slx 0 3 0)],[],1,1,[⟨0,3,0,0,none⟩],[],[]⟩)]⟩
def Vn:FT:=EY
end Go.Proofs.YtelnbodnjmldeaaGreat.vars
set_option maxRecDepth 100000
namespace Go.Proofs.YtelnbodnjmldeaaGreat.vars
open Go Go.Sx
instance gI:Gl:=Ns Ni SP []
abbrev AJ:=HL Tryz.prog
abbrev Bl:=CF Tryz.prog
def mo:Tryz.prog.follows .mixedOrders=true:=by kernel_rfl
def ov:EM Tryz.prog:=gD Ni SP _
def Bx (sh:List (Option Nat)) (ls:List AV) (c:VC) (t:VT) {f:FuncId} {ag:List AV} {v:AV} {m:Nat} (hfl:flat sh ag=some ls) (hls:Ak ls=true) (hv:BS v=true) (hc:c.fc=⟨[],[]⟩) (hm':64+FH sh=m) (ht:Tt Tryz.prog 300 c f (Fo 64 sh) m=t) (h:∀Y,AA Y 64->Gl.gt Y.v->AC Tryz.prog (· =v) [] (Y.puts 64 ls) t):AJ f ag v:=Jb mo ov hfl hls hv (by rw [hc];exact fun Y _=>Cn _) hm' ht h
def B3 (c:VC) (t:VT) {f:FuncId} {ft:FT} {vs:List AV} {R:Nat->List AV->Prop} (hlen:vs.length=ft.ent.nv) (hc:c.fc=⟨[],[]⟩) (ht:Wb Tryz.prog 300 c f ft=t) (h:∀Y,AA Y 64->Gl.gt Y.v->AC Tryz.prog (QF R) [] (Y.puts 64 vs) t):Bl f ft vs R:=uG mo ov hlen (by rw [hc];exact fun Y _=>Cn _) ht h
inductive GX where
 |mk (op kd:Int) (nm fd:List UInt8) (ad n vk vi:Int) (vf:Nat) (ag:List GX)
mutual
def x_:GX->List AV
 | .mk op kd nm fd ad n vk vi vf ag=>[.int .i64 op,.int .i64 kd,.str nm,.str fd,.int .i64 ad,.int .i64 n,.int .i64 vk,.int .i64 vi,.flt .f64 vf,De ag]
def De:List GX->AV
 |[]=>.nsl
 |a::r=>.vsl (r.length+1) 10 (x_ a++GT r)
def GT:List GX->List AV
 |[]=>[]
 |a::r=>x_ a++GT r
end
theorem jJ:∀l:List GX,GT l=Ay x_ l
 |[]=>rfl
 |a::r=>by simp only [GT,Ay,jJ r]
theorem OI (l:List GX):De l=Cv x_ 10 l:=by
 cases l with
 |nil=>rfl
 |cons a r=>simp only [De,Cv,Ay,jJ]
theorem FA (x:GX):(x_ x).length=10:=by cases x;simp [x_]
mutual
theorem Cw:∀x:GX,Ak (x_ x)=true
 | .mk op kd nm fd ad n vk vi vf ag=>by simp only [x_,Ak,okC,Eg ag]
theorem Eg:∀l:List GX,okC (De l)=true
 |[]=>rfl
 |a::r=>by simp only [De,okC];exact A9.okL_join (Cw a) (Kq r)
theorem Kq:∀l:List GX,Ak (GT l)=true
 |[]=>rfl
 |a::r=>by simp only [GT];exact A9.okL_join (Cw a) (Kq r)
end
inductive GS where
 |mk (op:Int) (to e:GX) (thn els:List GS) (nm:List UInt8) (kd ad:Int) (ag:List GX)
mutual
def DQ:GS->List AV
 | .mk op to e thn els nm kd ad ag=>.int .i64 op::(x_ to++(x_ e++[CK thn,CK els,.str nm,.int .i64 kd,.int .i64 ad,De ag]))
def CK:List GS->AV
 |[]=>.nsl
 |a::r=>.vsl (r.length+1) 27 (DQ a++Ny r)
def Ny:List GS->List AV
 |[]=>[]
 |a::r=>DQ a++Ny r
end
theorem nb:∀l:List GS,Ny l=Ay DQ l
 |[]=>rfl
 |a::r=>by simp only [Ny,Ay,nb r]
theorem Sm (l:List GS):CK l=Cv DQ 27 l:=by
 cases l with
 |nil=>rfl
 |cons a r=>simp only [CK,Cv,Ay,nb]
def XK (x:GS):(DQ x).length=27:=by cases x;simp [DQ,FA]
mutual
theorem JL:∀x:GS,Ak (DQ x)=true
 | .mk op to e thn els nm kd ad ag=>by simp only [DQ];refine A9.okL_join (a:=[_]) rfl (A9.okL_join (Cw to) (A9.okL_join (Cw e) ?_));simp only [Ak,okC,Eg ag,ES thn,ES els]
theorem ES:∀l:List GS,okC (CK l)=true
 |[]=>rfl
 |a::r=>by simp only [CK,okC];exact A9.okL_join (JL a) (cp r)
theorem cp:∀l:List GS,Ak (Ny l)=true
 |[]=>rfl
 |a::r=>by simp only [Ny];exact A9.okL_join (JL a) (cp r)
end
def Dq (op:Int) (n:Nat):Prop:=(op=1\/op=2)/\n=0\/(op=3\/op=15\/op=16\/op=17)/\n=1\/(4<=op/\op<=14)/\n=2
def NB (f:Nat):Prop:=f=0\/f=4609434218613702656\/f=4611686018427387904\/f=4598175219545276416
def GX.op:GX->Int| .mk op .. =>op
def GX.kd:GX->Int| .mk _ kd .. =>kd
def L7:List (List UInt8×List UInt8):=[([98],[]),([113],[]),([116,109],[113]),([97],[]),([120],[]),([111],[]),([99],[99,118]),([121],[]),([116,109],[101,116]),([119],[]),([122],[])]
def FJ (vk vi:Int) (vf:Nat):Prop:=(vk=1\/vk=3\/vk=4\/vk=5)/\0<=vi/\vi<50/\(vk=1->vi<=1)/\(vk=5->vi=0)/\(vk≠5->vf=0)
def pp (op kd:Int) (nm fd:List UInt8) (vk vi:Int) (vf:Nat):Prop:=(op=1->FJ vk vi vf)/\(op=2->(nm,fd)∈L7)/\(op=3->nm=[107])/\(op=17->2<=kd/\kd<=5)
def WX:Nat->GX->Prop
 |0,_=>False
 |d+1,.mk op kd nm fd _ _ vk vi vf ag=>Dq op ag.length/\NB vf/\pp op kd nm fd vk vi vf/\∀a∈ag,WX d a
def j_:∀{d e:Nat} {x:GX},d<=e->WX d x->WX e x
 |0,_,_,_,h=>h.elim
 |d+1,0,_,h,_=>by omega
 |d+1,e+1,.mk ..,h,⟨h1,h2,h3,h4⟩=>⟨h1,h2,h3,λa ha=>j_ (by omega) (h4 a ha)⟩
def WS:Nat->GS->Prop
 |0,_=>False
 |d+1,.mk op to e thn els nm kd ad ag=>
  (op=1/\WX 5 to/\(to.op=2\/to.op=3)/\WX 6 e/\thn=[]/\els=[])\/
  ((op=2\/op=3)/\WX 5 e/\thn.length<=5/\els.length<=5/\(∀s∈thn,WS d s)/\∀s∈els,WS d s)\/
  (op=4/\(nm=[116,109]\/nm=[99]\/nm=[101])/\ag.length<=2/\(∀a∈ag,WX 5 a)/\thn=[]/\els=[])
def F6 (c:UInt8):List AV:=[.int .u8 (c.toNat:Int)]
def Il_ (c:UInt8):(F6 c).length=1:=rfl
def Jm (c:UInt8):Ak (F6 c)=true:=rfl
def Pk (l:List UInt8) (a:AV):Prop:=SlV F6 1 l a/\l.length<=9223372036854775807
section
variable {l:List UInt8} {a:AV}
def SN (h:Pk l a):(XOp.len 22).run Tryz.prog [a]=some (.int .i64 (l.length:Int)):=h.1.len Tryz.underlying22
def ly (h:Pk l a) {i:Nat} (hi:i<l.length) {k:IntKind}:(XOp.iaddr 22).run Tryz.prog [a,.int k (i:Int)]=some (.vptr (Ay F6 (l.drop i))):=h.1.ia (e:=5) Tryz.underlying22 (ti:=(Tryz.prog.info? 5).get!) (by kernel_rfl) (by kernel_rfl) Il_ hi k
def nj {i:Nat} (hi:i<l.length):(XOp.load 5).run Tryz.prog [.vptr (Ay F6 (l.drop i))]=some (.int .u8 (l[i].toNat:Int)):=by rw [C7 hi];exact Wx Tryz.underlying5 rfl _ _
end
def XO (n:Nat) (h:n<256):(XOp.conv 5 3).run Tryz.prog [.int .u8 (n:Int)]=some (.int .i64 (n:Int)):=by rw [Hb Tryz.underlying5 Tryz.underlying3,CS (by omega) (by omega)]
def lK (x m:Nat) (h:0<m) (h2:m<9223372036854775808) (t:TypeId) (cx cy:Bool):(XOp.bin .rem t cx cy).run Tryz.prog [.int .i64 (x:Int),.int .i64 (m:Int)]=some (.int .i64 ((x%m:Nat):Int)):=by
 have:(x:Int).tmod (m:Int)=((x%m:Nat):Int):=by rw [Int.tmod_eq_emod_of_nonneg (by omega)];rfl
 show Dj Tryz.prog .rem t cx cy (.int .i64 (x:Int)) (.int .i64 (m:Int))=_;exact gL (by omega) this t cx cy
def o_ {x y:Int} {t:TypeId} {cx cy:Bool} (h1: -9223372036854775807<=x+y) (h2:x+y<=9223372036854775807):(XOp.bin .add t cx cy).run Tryz.prog [.int .i64 x,.int .i64 y]=some (.int .i64 (x+y)):=by rw [AM,CS (by omega) (by omega)]
def V_ {x y z:Int} {t:TypeId} {cx cy:Bool} (h:x-y=z) (h1: -9223372036854775807<=z) (h2:z<=9223372036854775807):(XOp.bin .sub t cx cy).run Tryz.prog [.int .i64 x,.int .i64 y]=some (.int .i64 z):=by rw [Bn,h,CS (by omega) (by omega)]
def RN (l:List UInt8) (m:Nat):Nat->List AV->Prop:=λ_ ws=>∃v n:Nat,ws=[.int .i64 (v:Int),.int .i64 (n:Int)]/\v<m/\n<=l.length
def wl:VC:=⟨⟨[],[]⟩,[],[],1,true,[]⟩
def dA:VT:=Li Z5 [64] 67<|It Z7 [65,67] 68 (Dn [J 0,65])<|Li Q3 [65,J 1] 69<|Li Qj [69,J 1] 70<|Li (.iaddr 22) [64,70] 71<|Li (.load 5) [71] 72<|Li Zi [72] 73<|Li (.bin .rem 3 false false) [73,66] 74<|Dn [74,69]
def uW {l:List UInt8} {a:AV} {n m:Nat} (h:Pk l a) (hn:n<=l.length) (hm:0<m) (hm2:m<=1000):Bl 46 Bt [a,.int .i64 (n:Int),.int .i64 (m:Int)] (RN l m):=by
 have hb:=h.2;refine B3 wl dA rfl rfl (by kernel_rfl) λY hf hg=>?_;unfold dA;refine Aa (SN h) rfl (Aa (A8 ..) rfl (Ax rfl (λh1=>Ai rfl ⟨0,n,rfl,hm,hn⟩) (λh1=>?_)));have h1:n<l.length:=by simpa using h1
 refine Aa (o_ (by omega) (by omega)) rfl (Aa (V_ (z:=n) (by omega) (by omega) (by omega)) rfl (Aa (ly h h1) (A9 Jm _) (Aa (nj h1) rfl (Aa (XO _ (UInt8.toNat_lt _)) rfl (Aa (lK _ _ hm (by omega) ..) rfl (Ai rfl ⟨l[n].toNat%m,n+1,rfl,Nat.mod_lt _ hm,h1⟩))))))
end Go.Proofs.YtelnbodnjmldeaaGreat.vars
set_option maxRecDepth 100000
namespace Go.Proofs.YtelnbodnjmldeaaGreat.vars
open Go Go.Sx
def RI (l:List UInt8) (m:Int):Nat->List AV->Prop:=λ_ ws=>∃v n:Nat,ws=[.int .i64 (v:Int),.int .i64 (n:Int)]/\(v:Int)<m/\n<=l.length
def tN {f:FuncId} {ft:FT} {vs:List AV} {R R':Nat->List AV->Prop} (h:Bl f ft vs R) (hr:∀j ws,R j ws->R' j ws):Bl f ft vs R':=
 ⟨h.1,λY hf B pr E w us h1 h2 h3 h4=>(h.2 Y hf B pr E w us h1 h2 h3 h4).mono λe w' ⟨Y',r,⟨j,ws,b,tp,q1,q2,q3⟩,hp⟩=>⟨Y',r,⟨j,ws,b,tp,q1,hr _ _ q2,q3⟩,hp⟩⟩
def Dm {l:List UInt8} {a:AV} {n:Nat} {m:Int} (h:Pk l a) (hn:n<=l.length) (hm:0<m) (hm2:m<=1000):Bl 46 Bt [a,.int .i64 (n:Int),.int .i64 m] (RI l m):=by
 have e:m=((m.toNat:Nat):Int):=by omega
 have:=uW h hn (m:=m.toNat) (by omega) (by omega);rw [←e]at this;exact tN this λj ws ⟨v,n,h1,h2,h3⟩=>⟨v,n,h1,by omega,h3⟩
def RX (l:List UInt8) (d:Nat):Nat->List AV->Prop:=λ_ ws=>∃(x:GX) (n:Nat),ws=x_ x++[.int .i64 (n:Int)]/\WX (d+1) x/\n<=l.length
def PX (l:List UInt8) (a:AV) (f:FuncId) (d:Nat):Prop:=∀(n:Nat) (k:Int),n<=l.length->1<=k/\k<=5->Bl f LA [a,.int .i64 (n:Int),.int .i64 k,.int .i64 (d:Int)] (RX l d)
def Gy {d:Nat} {kd ad n vk vi:Int} {nm fd:List UInt8} {vf:Nat} (ho:FJ vk vi vf) (hf:NB vf):WX (d+1) (.mk 1 kd nm fd ad n vk vi vf []):=⟨.inl ⟨.inl rfl,rfl⟩,hf,⟨λ_=>ho,λh=>by omega,λh=>by omega,λh=>by omega⟩,λa ha=>(za' ha).elim⟩
def J_ {d:Nat} {kd ad n vk vi:Int} {nm fd:List UInt8} (ho:(nm,fd)∈L7):WX (d+1) (.mk 2 kd nm fd ad n vk vi 0 []):=⟨.inl ⟨.inr rfl,rfl⟩,.inl rfl,⟨λh=>by omega,λ_=>ho,λh=>by omega,λh=>by omega⟩,λa ha=>(za' ha).elim⟩
def Ki {d:Nat} {op kd ad n vk vi:Int} {nm fd:List UInt8} {x:GX} (ho:op=3/\nm=[107]\/op=15\/op=16\/op=17/\2<=kd/\kd<=5) (h:WX d x):WX (d+1) (.mk op kd nm fd ad n vk vi 0 [x]):=by refine ⟨.inr (.inl ⟨by omega,rfl⟩),.inl rfl,⟨λh=>by omega,λh=>by omega,λh=>?_,λh=>by omega⟩,λa ha=>by cases List.mem_singleton.1 ha;exact h⟩;rcases ho with ho|ho|ho|ho;exact ho.2;all_goals omega
def JM {d:Nat} {op kd ad n vk vi:Int} {nm fd:List UInt8} {x y:GX} (ho:4<=op/\op<=14) (h:WX d x) (h2:WX d y):WX (d+1) (.mk op kd nm fd ad n vk vi 0 [x,y]):=
 ⟨.inr (.inr ⟨ho,rfl⟩),.inl rfl,⟨λh=>by omega,λh=>by omega,λh=>by omega,λh=>by omega⟩,λa ha=>by rcases List.mem_cons.1 ha with rfl|ha;exact h;cases List.mem_singleton.1 ha;exact h2⟩
def a_ {P:Program} {Q:AV->Prop} {L:List (Nat->List AV->Prop)} {Y:Sy} {f:FuncId} {ft:FT} {hv vs:List AV} {n:Nat} {bs:Hp} {R:Nat->List AV->Prop} (h1:CF P f ft vs R) (h0:An Y.v hv=vs) (h2:Ak vs=true) (h3:PZ P Q R L (Y.puts n vs) (Nat.add n ft.ent.nv) 0 bs):AC P Q L Y (.callF f ft hv n bs):=by subst h0;exact BL h1 h2 h3
def Df {a:AV} (h:okC a=true) {n m:Int}:Ak [a,.int .i64 n,.int .i64 m]=true:=by simp only [Ak,okC,h]
def BO {a:AV} (h:okC a=true) {n m k:Int}:Ak [a,.int .i64 n,.int .i64 m,.int .i64 k]=true:=by simp only [Ak,okC,h]
def Lb (x:GX) (n:Int):Ak (x_ x++[.int .i64 n])=true:=A9.okL_join (Cw x) rfl
def W_ {l:List UInt8} {d n j:Nat} {x:GX} {hv:List AV} {Y:Sy} {L:List (Nat->List AV->Prop)} (h:An Y.v hv=x_ x++[.int .i64 (n:Int)]) (hw:WX (d+1) x) (hn:n<=l.length):AC Tryz.prog (QF (RX l d)) L Y (.done (.tup (.int .i64 (.ofNat j)::hv))):=
 Ai (by rw [h];exact Lb x n) ⟨x,n,h,hw,hn⟩
section
variable {P:Program} {Q:AV->Prop} {L:List (Nat->List AV->Prop)} {Y:Sy} {t:TypeId} {cx cy:Bool} {ag:List AV} {n:Nat} {A B:VT} {k:IntKind} {a b:Int}
def w_:BinOp->Int->Int->Bool
 | .eql,a,b=>decide (a=b)
 | .neq,a,b=> !decide (a=b)
 | .lss,a,b=>decide (a<b)
 | .gtr,a,b=>decide (b<a)
 | .leq,a,b=>decide (a<=b)
 |_,_,_=>false
def C_ {op:BinOp} (h0:An Y.v ag=[.int k a,.int k b]) (ho:(match op with| .eql=>true| .neq=>true| .lss=>true| .gtr=>true| .leq=>true|_=>false)=true)
  (h1:w_ op a b=true->AC P Q L (Y.put n (.bool (w_ op a b))) A) (h2:w_ op a b=false->AC P Q L (Y.put n (.bool (w_ op a b))) B):AC P Q L Y (.lt (.bin op t cx cy) ag n none (.ite n A B)):=by
 have hr:(XOp.bin op t cx cy).run P [.int k a,.int k b]=some (.bool (w_ op a b)):=by
  cases op<;>simp only at ho<;>first|(cases ho;done)|skip
  exact Am ..;exact Al ..;exact AX ..;exact Bq ..;exact Bc ..
 exact Aa (by rw [h0];exact hr) rfl (Ax (t:=w_ op a b) (by rw [aE,Ad rfl]) h1 h2)
end
def zR:VC:=⟨⟨[],[]⟩,[],[],1,true,[(46,Bt),(150,r_)]⟩
def fZ:VT:=Cf 46 Bt [64,65,J 4] 68 2<|Iq 66 1 73 (Cf 46 Bt [64,72,J 2] 74 2<|Li Qg [.vsl 4 10 [J 2,J 0,.str [98],.str [],J 0,J 0,J 0,J 0,.flt .f64 0,.nsl,J 2,J 0,.str [113],.str [],J 0,J 0,J 0,J 0,.flt .f64 0,.nsl,J 2,J 0,.str [116,109],.str [113],J 0,J 0,J 0,J 0,.flt .f64 0,.nsl,J 1,J 0,.str [],.str [],J 0,J 0,J 1,77,.flt .f64 0,.nsl],71] 79<|.lt Qm [79] 80 (some 10)<|Dn (Ae 80 10++[78]))<|Iq 66 2 74 (Iq 71 0 75 (It Qb [67,J 1] 76 (Li Qj [67,J 1] 77<|Cf 150 r_ [64,72,J 2,77] 78 11<|Dn [J 3,J 0,.str [107],.str [],J 0,J 0,J 0,J 0,.flt .f64 0,.vsl 1 10 (Ae 82 10),92])<|It Qa [71,J 2] 77 (Cf 46 Bt [64,72,J 7] 78 2<|Dn [J 17,J 2,.str [],.str [],J 0,J 0,J 0,J 0,.flt .f64 0,.vsl 1 10 [J 1,J 0,.str [],.str [],J 0,J 0,J 3,81,.flt .f64 0,.nsl],82])<|Cf 46 Bt [64,72,J 4] 78 2<|Li Qg [.vsl 4 10 [J 2,J 0,.str [97],.str [],J 0,J 0,J 0,J 0,.flt .f64 0,.nsl,J 2,J 0,.str [120],.str [],J 0,J 0,J 0,J 0,.flt .f64 0,.nsl,J 2,J 0,.str [111],.str [],J 0,J 0,J 0,J 0,.flt .f64 0,.nsl,J 2,J 0,.str [99],.str [99,118],J 0,J 0,J 0,J 0,.flt .f64 0,.nsl],81] 83<|.lt Qm [83] 84 (some 10)<|Dn (Ae 84 10++[82]))<|It Qa [71,J 2] 76 (Cf 46 Bt [64,72,J 7] 77 2<|Dn [J 17,J 2,.str [],.str [],J 0,J 0,J 0,J 0,.flt .f64 0,.vsl 1 10 [J 1,J 0,.str [],.str [],J 0,J 0,J 3,80,.flt .f64 0,.nsl],81])<|Cf 46 Bt [64,72,J 4] 77 2<|Li Qg [.vsl 4 10 [J 2,J 0,.str [97],.str [],J 0,J 0,J 0,J 0,.flt .f64 0,.nsl,J 2,J 0,.str [120],.str [],J 0,J 0,J 0,J 0,.flt .f64 0,.nsl,J 2,J 0,.str [111],.str [],J 0,J 0,J 0,J 0,.flt .f64 0,.nsl,J 2,J 0,.str [99],.str [99,118],J 0,J 0,J 0,J 0,.flt .f64 0,.nsl],80] 82<|.lt Qm [82] 83 (some 10)<|Dn (Ae 83 10++[81]))<|Iq 66 3 75 (It Qa [71,J 2] 76 (Cf 46 Bt [64,72,J 9] 77 2<|Dn [J 1,J 0,.str [],.str [],J 0,J 0,J 3,80,.flt .f64 0,.nsl,81])<|Dn [J 2,J 0,.str [121],.str [],J 0,J 0,J 0,J 0,.flt .f64 0,.nsl,72])<|Iq 66 4 76 (Iq 71 0 77 (Dn [J 2,J 0,.str [116,109],.str [101,116],J 0,J 0,J 0,J 0,.flt .f64 0,.nsl,72])<|Iq 71 1 78 (Cf 46 Bt [64,72,J 50] 79 2<|Dn [J 1,J 0,.str [],.str [],J 0,J 0,J 4,82,.flt .f64 0,.nsl,83])<|Dn [J 2,J 0,.str [119],.str [],J 0,J 0,J 0,J 0,.flt .f64 0,.nsl,72])<|It Qa [71,J 2] 77 (Cf 46 Bt [64,72,J 4] 78 2<|Li (.iaddr 199) [.vsl 4 1 [.flt .f64 0,.flt .f64 4609434218613702656,.flt .f64 4611686018427387904,.flt .f64 4598175219545276416],81] 83<|Li (.load 60) [83] 84<|Dn [J 1,J 0,.str [],.str [],J 0,J 0,J 5,J 0,84,.nsl,82])<|Dn [J 2,J 0,.str [122],.str [],J 0,J 0,J 0,J 0,.flt .f64 0,.nsl,72]
def zv:VC:=⟨⟨[],[]⟩,[],[],1,true,[(46,Bt),(150,r_),(152,I0)]⟩
def bX:VT:=It Q8 [67,J 1] 68 (Cf 152 I0 [64,65,66,67] 69 11<|Dn (Ae 73 11))<|Cf 46 Bt [64,65,J 4] 69 2<|Iq 72 0 74 (Cf 152 I0 [64,73,66,67] 75 11<|Dn (Ae 79 11))<|Iq 66 1 75 (Cf 46 Bt [64,73,J 5] 76 2<|Iq 79 0 81 (Li Qj [67,J 1] 82<|Cf 150 r_ [64,80,J 1,82] 83 11<|Dn [J 15,J 0,.str [],.str [],J 0,J 0,J 0,J 0,.flt .f64 0,.vsl 1 10 (Ae 87 10),97])<|Iq 79 1 82 (Cf 46 Bt [64,80,J 2] 83 2<|Li Z2 [J 13,86] 88<|Li Qj [67,J 1] 89<|Cf 150 r_ [64,87,J 1,89] 90 11<|Li Qj [67,J 1] 105<|Cf 150 r_ [64,104,J 1,105] 106 11<|Dn [88,J 0,.str [],.str [],J 0,J 0,J 0,J 0,.flt .f64 0,.vsl 2 10 (Ae 94 10++Ae 110 10),120])<|Cf 46 Bt [64,80,J 4] 83 2<|Li Z2 [J 2,86] 88<|Cf 46 Bt [64,87,J 4] 89 2<|Li Z2 [J 9,92] 94<|Li Qj [67,J 1] 95<|Cf 150 r_ [64,93,88,95] 96 11<|Li Qj [67,J 1] 111<|Cf 150 r_ [64,110,88,111] 112 11<|Dn [94,J 0,.str [],.str [],J 0,J 0,J 0,J 0,.flt .f64 0,.vsl 2 10 (Ae 100 10++Ae 116 10),126])<|Cf 46 Bt [64,73,J 9] 76 2<|Iq 79 0 81 (Li Qj [67,J 1] 82<|Cf 150 r_ [64,80,66,82] 83 11<|Dn [J 16,J 0,.str [],.str [],J 0,J 0,J 0,J 0,.flt .f64 0,.vsl 1 10 (Ae 87 10),97])<|Iq 79 1 82 (Cf 46 Bt [64,80,J 4] 83 2<|Li Z2 [J 2,86] 88<|Li Qj [67,J 1] 89<|Cf 150 r_ [64,87,88,89] 90 11<|Dn [J 17,66,.str [],.str [],J 0,J 0,J 0,J 0,.flt .f64 0,.vsl 1 10 (Ae 94 10),104])<|Iq 79 2 83 (It Q1 [66,J 5] 84 (Li Qj [67,J 1] 85<|Cf 150 r_ [64,80,66,85] 86 11<|Li Qj [67,J 1] 101<|Cf 150 r_ [64,100,66,101] 102 11<|Dn [J 8,J 0,.str [],.str [],J 0,J 0,J 0,J 0,.flt .f64 0,.vsl 2 10 (Ae 90 10++Ae 106 10),116])<|Cf 46 Bt [64,80,J 4] 85 2<|Li Z2 [J 4,88] 90<|Li Qj [67,J 1] 91<|Cf 150 r_ [64,89,66,91] 92 11<|Li Qj [67,J 1] 107<|Cf 150 r_ [64,106,66,107] 108 11<|Dn [90,J 0,.str [],.str [],J 0,J 0,J 0,J 0,.flt .f64 0,.vsl 2 10 (Ae 96 10++Ae 112 10),122])<|Cf 46 Bt [64,80,J 4] 84 2<|Li Z2 [J 4,87] 89<|Li Qj [67,J 1] 90<|Cf 150 r_ [64,88,66,90] 91 11<|Li Qj [67,J 1] 106<|Cf 150 r_ [64,105,66,106] 107 11<|Dn [89,J 0,.str [],.str [],J 0,J 0,J 0,J 0,.flt .f64 0,.vsl 2 10 (Ae 95 10++Ae 111 10),121]
def kg {l:List UInt8} {a:AV} (hp:Pk l a) (d:Nat) (hd2:d<=100) (hX:1<=d->PX l a 150 d):PX l a 152 (d+1):=by
 intro n k hn hk;have hA:=hp.1.ok Jm;refine B3 zR fZ rfl rfl (by kernel_rfl) λY hf hg=>?_;unfold fZ;have f7:∀v:Nat,(v:Int)<7->WX (d+1+1) (.mk 17 2 [] [] 0 0 0 0 0 [.mk 1 0 [] [] 0 0 3 (v:Int) 0 []]):=λv hv=>Ki (by decide) (Gy (by unfold FJ;omega) (.inl rfl))
 (refine a_ (Dm hp hn (by first|decide|omega) (by first|decide|omega)) rfl (Df hA) ⟨?_,trivial⟩;intro ws hw;rcases hw with ⟨v,n,rfl,hv,hn⟩)
 (refine C_ rfl rfl (λh=>?_) (λh=>?_)<;>rw [w_]at h)
 ·((have e4:v=0\/v=1\/v=2\/v=3:=by omega);rcases e4 with rfl|rfl|rfl|rfl)
  all_goals (refine a_ (Dm hp hn (by first|decide|omega) (by first|decide|omega)) rfl (Df hA) ⟨?_,trivial⟩;intro ws hw;rcases hw with ⟨v,n,rfl,hv,hn⟩);refine Aa rfl rfl (BV rfl rfl rfl ?_);(first
                                                                                                                                                                                                               |exact W_ (x:=.mk 2 _ _ _ _ _ _ _ _ []) rfl (J_ (by decide)) hn
                                                                                                                                                                                                               |exact W_ (x:=.mk 1 _ _ _ _ _ _ _ _ []) rfl (Gy (by unfold FJ;omega) (by first|exact .inl rfl|exact .inr (.inl rfl)|exact .inr (.inr (.inl rfl))|exact .inr (.inr (.inr rfl)))) hn)
 (refine C_ rfl rfl (λh=>?_) (λh=>?_)<;>rw [w_]at h)
 ·(refine C_ rfl rfl (λh=>?_) (λh=>?_)<;>rw [w_]at h)
  ·(refine C_ rfl rfl (λh=>?_) (λh=>?_)<;>rw [w_]at h)
   .have hd1:1<=d:=(by simp at h;omega);refine Aa (V_ (z:=(d:Int)) (by omega) (by omega) (by omega)) rfl ?_
    (refine a_ ((hX hd1) _ _ hn (by first|decide|(simp only [AH,AY]at *; omega))) rfl (BO hA) ⟨?_,trivial⟩;intro ws hw;obtain ⟨⟨op,kd,nm,fd,ad,nn,vk,vi,vf,ag⟩,n,rfl,hx,hn⟩:=hw)
    (exact W_ (x:=.mk _ _ _ _ _ _ _ _ _ [.mk ..]) rfl (Ki (by first|decide|(refine .inr (.inr (.inr ⟨rfl,?_,?_⟩))<;>(simp only [AH,AY]at *; omega))) (by assumption)) hn)
   ·(refine C_ rfl rfl (λh=>?_) (λh=>?_)<;>rw [w_]at h)
    ·(refine a_ (Dm hp hn (by first|decide|omega) (by first|decide|omega)) rfl (Df hA) ⟨?_,trivial⟩;intro ws hw;rcases hw with ⟨v,n,rfl,hv,hn⟩)
     exact W_ (x:=.mk _ _ _ _ _ _ _ _ _ [.mk _ _ _ _ _ _ _ _ _ []]) rfl (f7 _ hv) hn
    ·(refine a_ (Dm hp hn (by first|decide|omega) (by first|decide|omega)) rfl (Df hA) ⟨?_,trivial⟩;intro ws hw;rcases hw with ⟨v,n,rfl,hv,hn⟩);((have e4:v=0\/v=1\/v=2\/v=3:=by omega);rcases e4 with rfl|rfl|rfl|rfl)
     all_goals refine Aa rfl rfl (BV rfl rfl rfl ?_);(first
                                                                |exact W_ (x:=.mk 2 _ _ _ _ _ _ _ _ []) rfl (J_ (by decide)) hn
                                                                |exact W_ (x:=.mk 1 _ _ _ _ _ _ _ _ []) rfl (Gy (by unfold FJ;omega) (by first|exact .inl rfl|exact .inr (.inl rfl)|exact .inr (.inr (.inl rfl))|exact .inr (.inr (.inr rfl)))) hn)
  ·(refine C_ rfl rfl (λh=>?_) (λh=>?_)<;>rw [w_]at h)
   ·(refine a_ (Dm hp hn (by first|decide|omega) (by first|decide|omega)) rfl (Df hA) ⟨?_,trivial⟩;intro ws hw;rcases hw with ⟨v,n,rfl,hv,hn⟩)
    exact W_ (x:=.mk _ _ _ _ _ _ _ _ _ [.mk _ _ _ _ _ _ _ _ _ []]) rfl (f7 _ hv) hn
   ·(refine a_ (Dm hp hn (by first|decide|omega) (by first|decide|omega)) rfl (Df hA) ⟨?_,trivial⟩;intro ws hw;rcases hw with ⟨v,n,rfl,hv,hn⟩);((have e4:v=0\/v=1\/v=2\/v=3:=by omega);rcases e4 with rfl|rfl|rfl|rfl)
    all_goals refine Aa rfl rfl (BV rfl rfl rfl ?_);(first
                                                               |exact W_ (x:=.mk 2 _ _ _ _ _ _ _ _ []) rfl (J_ (by decide)) hn
                                                               |exact W_ (x:=.mk 1 _ _ _ _ _ _ _ _ []) rfl (Gy (by unfold FJ;omega) (by first|exact .inl rfl|exact .inr (.inl rfl)|exact .inr (.inr (.inl rfl))|exact .inr (.inr (.inr rfl)))) hn)
 (refine C_ rfl rfl (λh=>?_) (λh=>?_)<;>rw [w_]at h)
 ·(refine C_ rfl rfl (λh=>?_) (λh=>?_)<;>rw [w_]at h)
  ·(refine a_ (Dm hp hn (by first|decide|omega) (by first|decide|omega)) rfl (Df hA) ⟨?_,trivial⟩;intro ws hw;rcases hw with ⟨v,n,rfl,hv,hn⟩);(first
                                                                                                                                                       |exact W_ (x:=.mk 2 _ _ _ _ _ _ _ _ []) rfl (J_ (by decide)) hn
                                                                                                                                                       |exact W_ (x:=.mk 1 _ _ _ _ _ _ _ _ []) rfl (Gy (by unfold FJ;omega) (by first|exact .inl rfl|exact .inr (.inl rfl)|exact .inr (.inr (.inl rfl))|exact .inr (.inr (.inr rfl)))) hn)
  ·(first
     |exact W_ (x:=.mk 2 _ _ _ _ _ _ _ _ []) rfl (J_ (by decide)) hn
     |exact W_ (x:=.mk 1 _ _ _ _ _ _ _ _ []) rfl (Gy (by unfold FJ;omega) (by first|exact .inl rfl|exact .inr (.inl rfl)|exact .inr (.inr (.inl rfl))|exact .inr (.inr (.inr rfl)))) hn)
 (refine C_ rfl rfl (λh=>?_) (λh=>?_)<;>rw [w_]at h)
 ·(refine C_ rfl rfl (λh=>?_) (λh=>?_)<;>rw [w_]at h)
  ·(first
     |exact W_ (x:=.mk 2 _ _ _ _ _ _ _ _ []) rfl (J_ (by decide)) hn
     |exact W_ (x:=.mk 1 _ _ _ _ _ _ _ _ []) rfl (Gy (by unfold FJ;omega) (by first|exact .inl rfl|exact .inr (.inl rfl)|exact .inr (.inr (.inl rfl))|exact .inr (.inr (.inr rfl)))) hn)
  ·(refine C_ rfl rfl (λh=>?_) (λh=>?_)<;>rw [w_]at h)
   ·(refine a_ (Dm hp hn (by first|decide|omega) (by first|decide|omega)) rfl (Df hA) ⟨?_,trivial⟩;intro ws hw;rcases hw with ⟨v,n,rfl,hv,hn⟩);(first
                                                                                                                                                        |exact W_ (x:=.mk 2 _ _ _ _ _ _ _ _ []) rfl (J_ (by decide)) hn
                                                                                                                                                        |exact W_ (x:=.mk 1 _ _ _ _ _ _ _ _ []) rfl (Gy (by unfold FJ;omega) (by first|exact .inl rfl|exact .inr (.inl rfl)|exact .inr (.inr (.inl rfl))|exact .inr (.inr (.inr rfl)))) hn)
   ·(first
      |exact W_ (x:=.mk 2 _ _ _ _ _ _ _ _ []) rfl (J_ (by decide)) hn
      |exact W_ (x:=.mk 1 _ _ _ _ _ _ _ _ []) rfl (Gy (by unfold FJ;omega) (by first|exact .inl rfl|exact .inr (.inl rfl)|exact .inr (.inr (.inl rfl))|exact .inr (.inr (.inr rfl)))) hn)
 (refine C_ rfl rfl (λh=>?_) (λh=>?_)<;>rw [w_]at h)
 ·(refine a_ (Dm hp hn (by first|decide|omega) (by first|decide|omega)) rfl (Df hA) ⟨?_,trivial⟩;intro ws hw;rcases hw with ⟨v,n,rfl,hv,hn⟩);((have e4:v=0\/v=1\/v=2\/v=3:=by omega);rcases e4 with rfl|rfl|rfl|rfl)
  all_goals refine Aa rfl rfl (Aa rfl rfl ?_);(first
                                                        |exact W_ (x:=.mk 2 _ _ _ _ _ _ _ _ []) rfl (J_ (by decide)) hn
                                                        |exact W_ (x:=.mk 1 _ _ _ _ _ _ _ _ []) rfl (Gy (by unfold FJ;omega) (by first|exact .inl rfl|exact .inr (.inl rfl)|exact .inr (.inr (.inl rfl))|exact .inr (.inr (.inr rfl)))) hn)
 ·(first
    |exact W_ (x:=.mk 2 _ _ _ _ _ _ _ _ []) rfl (J_ (by decide)) hn
    |exact W_ (x:=.mk 1 _ _ _ _ _ _ _ _ []) rfl (Gy (by unfold FJ;omega) (by first|exact .inl rfl|exact .inr (.inl rfl)|exact .inr (.inr (.inl rfl))|exact .inr (.inr (.inr rfl)))) hn)
def gV {l:List UInt8} {a:AV} (hp:Pk l a) (d:Nat) (hd2:d<=100) (h83:PX l a 152 (d+1)) (h81:1<=d->PX l a 150 d):PX l a 150 (d+1):=by
 intro n k hn hk;have hA:=hp.1.ok Jm;refine B3 zv bX rfl rfl (by kernel_rfl) λY hf hg=>?_;unfold bX
 (refine C_ rfl rfl (λh=>?_) (λh=>?_)<;>rw [w_]at h)
 ·(refine a_ (h83 _ _ hn (by first|decide|(simp only [AH,AY]at *; omega))) rfl (BO hA) ⟨?_,trivial⟩;intro ws hw;obtain ⟨⟨op,kd,nm,fd,ad,nn,vk,vi,vf,ag⟩,n,rfl,hx,hn⟩:=hw);exact W_ (x:=.mk ..) rfl hx hn
 have hX:=h81 (by simp at h;omega)
 (refine a_ (Dm hp hn (by first|decide|omega) (by first|decide|omega)) rfl (Df hA) ⟨?_,trivial⟩;intro ws hw;rcases hw with ⟨v,n,rfl,hv,hn⟩);(refine C_ rfl rfl (λh=>?_) (λh=>?_)<;>rw [w_]at h)
 ·(refine a_ (h83 _ _ hn (by first|decide|(simp only [AH,AY]at *; omega))) rfl (BO hA) ⟨?_,trivial⟩;intro ws hw;obtain ⟨⟨op,kd,nm,fd,ad,nn,vk,vi,vf,ag⟩,n,rfl,hx,hn⟩:=hw);exact W_ (x:=.mk ..) rfl hx hn
 (refine C_ rfl rfl (λh=>?_) (λh=>?_)<;>rw [w_]at h)
 ·(refine a_ (Dm hp hn (by first|decide|omega) (by first|decide|omega)) rfl (Df hA) ⟨?_,trivial⟩;intro ws hw;rcases hw with ⟨v,n,rfl,hv,hn⟩);(refine C_ rfl rfl (λh=>?_) (λh=>?_)<;>rw [w_]at h)
  ·(refine Aa (V_ (z:=(d:Int)) (by omega) (by omega) (by omega)) rfl ?_);(refine a_ (hX _ _ hn (by first|decide|(simp only [AH,AY]at *; omega))) rfl (BO hA) ⟨?_,trivial⟩;intro ws hw;obtain ⟨⟨op,kd,nm,fd,ad,nn,vk,vi,vf,ag⟩,n,rfl,hx,hn⟩:=hw);(exact W_ (x:=.mk _ _ _ _ _ _ _ _ _ [.mk ..]) rfl (Ki (by first|decide|(refine .inr (.inr (.inr ⟨rfl,?_,?_⟩))<;>(simp only [AH,AY]at *; omega))) (by assumption)) hn)
  (refine C_ rfl rfl (λh=>?_) (λh=>?_)<;>rw [w_]at h)
  ·(refine a_ (Dm hp hn (by first|decide|omega) (by first|decide|omega)) rfl (Df hA) ⟨?_,trivial⟩;intro ws hw;rcases hw with ⟨v,n,rfl,hv,hn⟩);(refine Aa (o_ (by omega) (by omega)) rfl ?_);(refine Aa (V_ (z:=(d:Int)) (by omega) (by omega) (by omega)) rfl ?_);(refine a_ (hX _ _ hn (by first|decide|(simp only [AH,AY]at *; omega))) rfl (BO hA) ⟨?_,trivial⟩;intro ws hw;obtain ⟨⟨op,kd,nm,fd,ad,nn,vk,vi,vf,ag⟩,n,rfl,hx,hn⟩:=hw);(refine Aa (V_ (z:=(d:Int)) (by omega) (by omega) (by omega)) rfl ?_);(refine a_ (hX _ _ hn (by first|decide|(simp only [AH,AY]at *; omega))) rfl (BO hA) ⟨?_,trivial⟩;intro ws hw;obtain ⟨⟨op,kd,nm,fd,ad,nn,vk,vi,vf,ag⟩,n,rfl,hx,hn⟩:=hw);(exact W_ (x:=.mk _ _ _ _ _ _ _ _ _ [.mk ..,.mk ..]) rfl (JM (by omega) (by assumption) (by assumption)) hn)
  ·(refine a_ (Dm hp hn (by first|decide|omega) (by first|decide|omega)) rfl (Df hA) ⟨?_,trivial⟩;intro ws hw;rcases hw with ⟨v,n,rfl,hv,hn⟩);(refine Aa (o_ (by omega) (by omega)) rfl ?_);(refine a_ (Dm hp hn (by first|decide|omega) (by first|decide|omega)) rfl (Df hA) ⟨?_,trivial⟩;intro ws hw;rcases hw with ⟨v,n,rfl,hv,hn⟩);(refine Aa (o_ (by omega) (by omega)) rfl ?_);(refine Aa (V_ (z:=(d:Int)) (by omega) (by omega) (by omega)) rfl ?_);(refine a_ (hX _ _ hn (by first|decide|(simp only [AH,AY]at *; omega))) rfl (BO hA) ⟨?_,trivial⟩;intro ws hw;obtain ⟨⟨op,kd,nm,fd,ad,nn,vk,vi,vf,ag⟩,n,rfl,hx,hn⟩:=hw);(refine Aa (V_ (z:=(d:Int)) (by omega) (by omega) (by omega)) rfl ?_);(refine a_ (hX _ _ hn (by first|decide|(simp only [AH,AY]at *; omega))) rfl (BO hA) ⟨?_,trivial⟩;intro ws hw;obtain ⟨⟨op,kd,nm,fd,ad,nn,vk,vi,vf,ag⟩,n,rfl,hx,hn⟩:=hw);(exact W_ (x:=.mk _ _ _ _ _ _ _ _ _ [.mk ..,.mk ..]) rfl (JM (by omega) (by assumption) (by assumption)) hn)
 ·(refine a_ (Dm hp hn (by first|decide|omega) (by first|decide|omega)) rfl (Df hA) ⟨?_,trivial⟩;intro ws hw;rcases hw with ⟨v,n,rfl,hv,hn⟩);(refine C_ rfl rfl (λh=>?_) (λh=>?_)<;>rw [w_]at h)
  ·(refine Aa (V_ (z:=(d:Int)) (by omega) (by omega) (by omega)) rfl ?_);(refine a_ (hX _ _ hn (by first|decide|(simp only [AH,AY]at *; omega))) rfl (BO hA) ⟨?_,trivial⟩;intro ws hw;obtain ⟨⟨op,kd,nm,fd,ad,nn,vk,vi,vf,ag⟩,n,rfl,hx,hn⟩:=hw);(exact W_ (x:=.mk _ _ _ _ _ _ _ _ _ [.mk ..]) rfl (Ki (by first|decide|(refine .inr (.inr (.inr ⟨rfl,?_,?_⟩))<;>(simp only [AH,AY]at *; omega))) (by assumption)) hn)
  (refine C_ rfl rfl (λh=>?_) (λh=>?_)<;>rw [w_]at h)
  ·(refine a_ (Dm hp hn (by first|decide|omega) (by first|decide|omega)) rfl (Df hA) ⟨?_,trivial⟩;intro ws hw;rcases hw with ⟨v,n,rfl,hv,hn⟩);(refine Aa (o_ (by omega) (by omega)) rfl ?_);(refine Aa (V_ (z:=(d:Int)) (by omega) (by omega) (by omega)) rfl ?_);(refine a_ (hX _ _ hn (by first|decide|(simp only [AH,AY]at *; omega))) rfl (BO hA) ⟨?_,trivial⟩;intro ws hw;obtain ⟨⟨op,kd,nm,fd,ad,nn,vk,vi,vf,ag⟩,n,rfl,hx,hn⟩:=hw);(exact W_ (x:=.mk _ _ _ _ _ _ _ _ _ [.mk ..]) rfl (Ki (by first|decide|(refine .inr (.inr (.inr ⟨rfl,?_,?_⟩))<;>(simp only [AH,AY]at *; omega))) (by assumption)) hn)
  (refine C_ rfl rfl (λh=>?_) (λh=>?_)<;>rw [w_]at h)
  ·(refine C_ rfl rfl (λh=>?_) (λh=>?_)<;>rw [w_]at h)
   ·(refine Aa (V_ (z:=(d:Int)) (by omega) (by omega) (by omega)) rfl ?_);(refine a_ (hX _ _ hn (by first|decide|(simp only [AH,AY]at *; omega))) rfl (BO hA) ⟨?_,trivial⟩;intro ws hw;obtain ⟨⟨op,kd,nm,fd,ad,nn,vk,vi,vf,ag⟩,n,rfl,hx,hn⟩:=hw);(refine Aa (V_ (z:=(d:Int)) (by omega) (by omega) (by omega)) rfl ?_);(refine a_ (hX _ _ hn (by first|decide|(simp only [AH,AY]at *; omega))) rfl (BO hA) ⟨?_,trivial⟩;intro ws hw;obtain ⟨⟨op,kd,nm,fd,ad,nn,vk,vi,vf,ag⟩,n,rfl,hx,hn⟩:=hw);(exact W_ (x:=.mk _ _ _ _ _ _ _ _ _ [.mk ..,.mk ..]) rfl (JM (by omega) (by assumption) (by assumption)) hn)
   ·(refine a_ (Dm hp hn (by first|decide|omega) (by first|decide|omega)) rfl (Df hA) ⟨?_,trivial⟩;intro ws hw;rcases hw with ⟨v,n,rfl,hv,hn⟩);(refine Aa (o_ (by omega) (by omega)) rfl ?_);(refine Aa (V_ (z:=(d:Int)) (by omega) (by omega) (by omega)) rfl ?_);(refine a_ (hX _ _ hn (by first|decide|(simp only [AH,AY]at *; omega))) rfl (BO hA) ⟨?_,trivial⟩;intro ws hw;obtain ⟨⟨op,kd,nm,fd,ad,nn,vk,vi,vf,ag⟩,n,rfl,hx,hn⟩:=hw);(refine Aa (V_ (z:=(d:Int)) (by omega) (by omega) (by omega)) rfl ?_);(refine a_ (hX _ _ hn (by first|decide|(simp only [AH,AY]at *; omega))) rfl (BO hA) ⟨?_,trivial⟩;intro ws hw;obtain ⟨⟨op,kd,nm,fd,ad,nn,vk,vi,vf,ag⟩,n,rfl,hx,hn⟩:=hw);(exact W_ (x:=.mk _ _ _ _ _ _ _ _ _ [.mk ..,.mk ..]) rfl (JM (by omega) (by assumption) (by assumption)) hn)
  ·(refine a_ (Dm hp hn (by first|decide|omega) (by first|decide|omega)) rfl (Df hA) ⟨?_,trivial⟩;intro ws hw;rcases hw with ⟨v,n,rfl,hv,hn⟩);(refine Aa (o_ (by omega) (by omega)) rfl ?_);(refine Aa (V_ (z:=(d:Int)) (by omega) (by omega) (by omega)) rfl ?_);(refine a_ (hX _ _ hn (by first|decide|(simp only [AH,AY]at *; omega))) rfl (BO hA) ⟨?_,trivial⟩;intro ws hw;obtain ⟨⟨op,kd,nm,fd,ad,nn,vk,vi,vf,ag⟩,n,rfl,hx,hn⟩:=hw);(refine Aa (V_ (z:=(d:Int)) (by omega) (by omega) (by omega)) rfl ?_);(refine a_ (hX _ _ hn (by first|decide|(simp only [AH,AY]at *; omega))) rfl (BO hA) ⟨?_,trivial⟩;intro ws hw;obtain ⟨⟨op,kd,nm,fd,ad,nn,vk,vi,vf,ag⟩,n,rfl,hx,hn⟩:=hw);(exact W_ (x:=.mk _ _ _ _ _ _ _ _ _ [.mk ..,.mk ..]) rfl (JM (by omega) (by assumption) (by assumption)) hn)
def pX {l:List UInt8} {a:AV} (hp:Pk l a):∀d:Nat,d<=100->PX l a 152 (d+1)/\PX l a 150 (d+1)
 |0,h=>by have h1:=kg hp 0 h (λh=>by omega);exact ⟨h1,gV hp 0 h h1 (λh=>by omega)⟩
 |d+1,h=>by have ih:=pX hp d (by omega);have h1:=kg hp (d+1) h (λ_=>ih.2);exact ⟨h1,gV hp (d+1) h h1 (λ_=>ih.2)⟩
end Go.Proofs.YtelnbodnjmldeaaGreat.vars
set_option maxRecDepth 100000
namespace Go.Proofs.YtelnbodnjmldeaaGreat.vars
open Go Go.Sx
def RS (l:List UInt8) (d:Nat):Nat->List AV->Prop:=λ_ ws=>∃(x:GS) (n:Nat),ws=DQ x++[.int .i64 (n:Int)]/\WS d x/\n<=l.length
def RB (l:List UInt8) (d m:Nat):Nat->List AV->Prop:=λ_ ws=>∃(x:List GS) (n:Nat),ws=[CK x,.int .i64 (n:Int)]/\(x.length<=m/\∀s∈x,WS d s)/\n<=l.length
def PS (l:List UInt8) (a:AV) (d:Nat):Prop:=∀n:Nat,n<=l.length->Bl 98 Ly [a,.int .i64 (n:Int),.int .i64 (d:Int)] (RS l (d+1))
def PB (l:List UInt8) (a:AV) (d:Nat):Prop:=∀(n m:Nat),n<=l.length->1<=m->m<=10->Bl 55 E7 [a,.int .i64 (n:Int),.int .i64 (m:Int),.int .i64 (d:Int)] (RB l (d+1) m)
def jV (x:GS) (n:Int):Ak (DQ x++[.int .i64 n])=true:=A9.okL_join (JL x) rfl
def Dx {l:List UInt8} {d n j:Nat} {x:GS} {hv:List AV} {Y:Sy} {L:List (Nat->List AV->Prop)} (h:An Y.v hv=DQ x++[.int .i64 (n:Int)]) (hw:WS d x) (hn:n<=l.length):AC Tryz.prog (QF (RS l d)) L Y (.done (.tup (.int .i64 (.ofNat j)::hv))):=
 Ai (by rw [h];exact jV x n) ⟨x,n,h,hw,hn⟩
def IL {d:Nat} {to e:GX} (h1:WX 5 to) (h2:to.op=2\/to.op=3) (h3:WX 5 e):WS (d+1) (.mk 1 to e [] [] [] 0 0 []):=.inl ⟨rfl,h1,h2,j_ (by omega) h3,rfl,rfl⟩
def Hh {d:Nat} {to e:GX} {nm:List UInt8} {kd ad:Int} {ag:List GX} (h0:nm=[116,109]\/nm=[99]\/nm=[101]) (h1:ag.length<=2) (h2:∀a∈ag,WX 5 a):WS (d+1) (.mk 4 to e [] [] nm kd ad ag):=.inr (.inr ⟨rfl,h0,h1,h2,rfl,rfl⟩)
def SX {d:Nat} {op:Int} {to e:GX} {thn els:List GS} {nm:List UInt8} {kd ad:Int} {ag:List GX} (h1:op=2\/op=3) (h:WX 5 e) (h2:thn.length<=5) (h3:els.length<=5) (h4:∀s∈thn,WS d s) (h5:∀s∈els,WS d s):WS (d+1) (.mk op to e thn els nm kd ad ag):=.inr (.inl ⟨h1,h,h2,h3,h4,h5⟩)
def Pw {x:GX} (h:WX 5 x):∀a∈[x],WX 5 a:=λa ha=>by cases List.mem_singleton.1 ha;exact h
def Ku {x y:GX} (h:WX 5 x) (h2:WX 5 y):∀a∈[x,y],WX 5 a:=λa ha=>by rcases List.mem_cons.1 ha with rfl|ha;exact h;exact Pw h2 a ha
def N6 {s:List UInt8} (h:(s,[])∈L7):WX 5 (.mk 2 0 s [] 0 0 0 0 0 []):=J_ h
def qy:VC:=⟨⟨[],[]⟩,[],[],0,true,[]⟩
def gC:VT:=.done (.agg [J 2,J 0,64,.str [],J 0,J 0,J 0,J 0,.flt .f64 0,.nsl])
def wE:VC:=⟨⟨[],[]⟩,[],[],0,true,[]⟩
def oZ:VT:=.done (.agg [J 1,J 0,.str [],.str [],J 0,J 0,64,65,66,.nsl])
def Jl (s:List UInt8):AJ 151 [.str s] (.agg (x_ (.mk 2 0 s [] 0 0 0 0 0 []))):=by refine Bx [none] [.str s] qy gC rfl rfl rfl rfl rfl (by kernel_rfl) λY hf hg=>?_;unfold gC;exact Ap rfl
def lT:AJ 153 [.agg [.int .i64 3,.int .i64 1,.flt .f64 0]] (.agg (x_ (.mk 1 0 [] [] 0 0 3 1 0 []))):=by refine Bx [some 3] [.int .i64 3,.int .i64 1,.flt .f64 0] wE oZ rfl rfl rfl rfl rfl (by kernel_rfl) λY hf hg=>?_;unfold oZ;exact Ap rfl
def vc:VC:=⟨⟨[],[]⟩,[(151,[(some 10)]),(153,[(some 10)])],[],1,true,[(46,Bt),(150,r_),(152,I0),(55,E7)]⟩
def bY:VT:=Cf 46 Bt [64,65,J 12] 67 2<|Iq 70 0 72 (It Qb [66,J 0] 73 (Cf 150 r_ [64,71,J 1,J 3] 74 11<|Li Qj [66,J 1] 89<|Cf 55 E7 [64,88,J 2,89] 90 2<|Cf 46 Bt [64,95,J 2] 96 2<|Iq 99 0 101 (Li Qj [66,J 1] 102<|Cf 55 E7 [64,100,J 2,102] 103 2<|Dn [J 2,J 0,J 0,.str [],.str [],J 0,J 0,J 0,J 0,.flt .f64 0,.nsl,78,79,80,81,82,83,84,85,86,87,94,107,.str [],J 0,J 0,.nsl,108])<|Dn [J 2,J 0,J 0,.str [],.str [],J 0,J 0,J 0,J 0,.flt .f64 0,.nsl,78,79,80,81,82,83,84,85,86,87,94,.nsl,.str [],J 0,J 0,.nsl,100])<|Iq 70 1 74 (It Qb [66,J 0] 75 (.call 151 [.str [120]] 76 [(some 10)]<|Cf 152 I0 [64,71,J 2,J 1] 86 11<|Li Qj [66,J 1] 101<|Cf 55 E7 [64,100,J 1,101] 102 2<|.call 151 [.str [120]] 108 [(some 10)]<|.call 151 [.str [120]] 118 [(some 10)]<|.call 153 [.agg [J 3,J 1,.flt .f64 0]] 128 [(some 10)]<|Li Zm [106,.agg [J 1,108,109,110,111,112,113,114,115,116,117,J 4,J 0,.str [],.str [],J 0,J 0,J 0,J 0,.flt .f64 0,.vsl 2 10 (Ae 118 20),.nsl,.nsl,.str [],J 0,J 0,.nsl]] 138<|Dn [J 3,J 0,J 0,.str [],.str [],J 0,J 0,J 0,J 0,.flt .f64 0,.nsl,J 11,J 0,.str [],.str [],J 0,J 0,J 0,J 0,.flt .f64 0,.vsl 2 10 (Ae 76 10++Ae 90 10),138,.nsl,.str [],J 0,J 0,.nsl,107])<|Iq 70 2 76 (Cf 150 r_ [64,71,J 1,J 2] 77 11<|Cf 150 r_ [64,91,J 4,J 2] 92 11<|Dn [J 4,J 0,J 0,.str [],.str [],J 0,J 0,J 0,J 0,.flt .f64 0,.nsl,J 0,J 0,.str [],.str [],J 0,J 0,J 0,J 0,.flt .f64 0,.nsl,.nsl,.nsl,.str [116,109],J 0,J 0,.vsl 2 10 (Ae 81 10++Ae 96 10),106])<|Iq 70 3 77 (Cf 150 r_ [64,71,J 1,J 2] 78 11<|Cf 152 I0 [64,92,J 2,J 1] 93 11<|Dn [J 4,J 0,J 0,.str [],.str [],J 0,J 0,J 0,J 0,.flt .f64 0,.nsl,J 0,J 0,.str [],.str [],J 0,J 0,J 0,J 0,.flt .f64 0,.nsl,.nsl,.nsl,.str [99],J 0,J 0,.vsl 2 10 (Ae 82 10++Ae 97 10),107])<|Iq 70 4 78 (Cf 150 r_ [64,71,J 1,J 2] 79 11<|Dn [J 4,J 0,J 0,.str [],.str [],J 0,J 0,J 0,J 0,.flt .f64 0,.nsl,J 0,J 0,.str [],.str [],J 0,J 0,J 0,J 0,.flt .f64 0,.nsl,.nsl,.nsl,.str [101],J 0,J 0,.vsl 1 10 (Ae 83 10),93])<|Iq 70 5 79 (Cf 150 r_ [64,71,J 2,J 2] 80 11<|Cf 150 r_ [64,94,J 2,J 3] 95 11<|Dn [J 1,J 3,J 0,.str [107],.str [],J 0,J 0,J 0,J 0,.flt .f64 0,.vsl 1 10 (Ae 84 10),99,100,101,102,103,104,105,106,107,108,.nsl,.nsl,.str [],J 0,J 0,.nsl,109])<|Cf 46 Bt [64,71,J 6] 80 2<|Li Zn [.vsl 6 1 [.str [111],.str [120],.str [113],.str [121],.str [122],.str [119]],83] 85<|Li Zo [85] 86<|Li Zp [86] 87<|.call 151 [86] 88 [(some 10)]<|Cf 150 r_ [64,84,87,J 4] 98 11<|Dn [J 1,88,89,90,91,92,93,94,95,96,97,102,103,104,105,106,107,108,109,110,111,.nsl,.nsl,.str [],J 0,J 0,.nsl,112])<|Iq 70 2 75 (Cf 150 r_ [64,71,J 1,J 2] 76 11<|Cf 150 r_ [64,90,J 4,J 2] 91 11<|Dn [J 4,J 0,J 0,.str [],.str [],J 0,J 0,J 0,J 0,.flt .f64 0,.nsl,J 0,J 0,.str [],.str [],J 0,J 0,J 0,J 0,.flt .f64 0,.nsl,.nsl,.nsl,.str [116,109],J 0,J 0,.vsl 2 10 (Ae 80 10++Ae 95 10),105])<|Iq 70 3 76 (Cf 150 r_ [64,71,J 1,J 2] 77 11<|Cf 152 I0 [64,91,J 2,J 1] 92 11<|Dn [J 4,J 0,J 0,.str [],.str [],J 0,J 0,J 0,J 0,.flt .f64 0,.nsl,J 0,J 0,.str [],.str [],J 0,J 0,J 0,J 0,.flt .f64 0,.nsl,.nsl,.nsl,.str [99],J 0,J 0,.vsl 2 10 (Ae 81 10++Ae 96 10),106])<|Iq 70 4 77 (Cf 150 r_ [64,71,J 1,J 2] 78 11<|Dn [J 4,J 0,J 0,.str [],.str [],J 0,J 0,J 0,J 0,.flt .f64 0,.nsl,J 0,J 0,.str [],.str [],J 0,J 0,J 0,J 0,.flt .f64 0,.nsl,.nsl,.nsl,.str [101],J 0,J 0,.vsl 1 10 (Ae 82 10),92])<|Iq 70 5 78 (Cf 150 r_ [64,71,J 2,J 2] 79 11<|Cf 150 r_ [64,93,J 2,J 3] 94 11<|Dn [J 1,J 3,J 0,.str [107],.str [],J 0,J 0,J 0,J 0,.flt .f64 0,.vsl 1 10 (Ae 83 10),98,99,100,101,102,103,104,105,106,107,.nsl,.nsl,.str [],J 0,J 0,.nsl,108])<|Cf 46 Bt [64,71,J 6] 79 2<|Li Zn [.vsl 6 1 [.str [111],.str [120],.str [113],.str [121],.str [122],.str [119]],82] 84<|Li Zo [84] 85<|Li Zp [85] 86<|.call 151 [85] 87 [(some 10)]<|Cf 150 r_ [64,83,86,J 4] 97 11<|Dn [J 1,87,88,89,90,91,92,93,94,95,96,101,102,103,104,105,106,107,108,109,110,.nsl,.nsl,.str [],J 0,J 0,.nsl,111])<|Iq 70 1 73 (It Qb [66,J 0] 74 (.call 151 [.str [120]] 75 [(some 10)]<|Cf 152 I0 [64,71,J 2,J 1] 85 11<|Li Qj [66,J 1] 100<|Cf 55 E7 [64,99,J 1,100] 101 2<|.call 151 [.str [120]] 107 [(some 10)]<|.call 151 [.str [120]] 117 [(some 10)]<|.call 153 [.agg [J 3,J 1,.flt .f64 0]] 127 [(some 10)]<|Li Zm [105,.agg [J 1,107,108,109,110,111,112,113,114,115,116,J 4,J 0,.str [],.str [],J 0,J 0,J 0,J 0,.flt .f64 0,.vsl 2 10 (Ae 117 20),.nsl,.nsl,.str [],J 0,J 0,.nsl]] 137<|Dn [J 3,J 0,J 0,.str [],.str [],J 0,J 0,J 0,J 0,.flt .f64 0,.nsl,J 11,J 0,.str [],.str [],J 0,J 0,J 0,J 0,.flt .f64 0,.vsl 2 10 (Ae 75 10++Ae 89 10),137,.nsl,.str [],J 0,J 0,.nsl,106])<|Iq 70 2 75 (Cf 150 r_ [64,71,J 1,J 2] 76 11<|Cf 150 r_ [64,90,J 4,J 2] 91 11<|Dn [J 4,J 0,J 0,.str [],.str [],J 0,J 0,J 0,J 0,.flt .f64 0,.nsl,J 0,J 0,.str [],.str [],J 0,J 0,J 0,J 0,.flt .f64 0,.nsl,.nsl,.nsl,.str [116,109],J 0,J 0,.vsl 2 10 (Ae 80 10++Ae 95 10),105])<|Iq 70 3 76 (Cf 150 r_ [64,71,J 1,J 2] 77 11<|Cf 152 I0 [64,91,J 2,J 1] 92 11<|Dn [J 4,J 0,J 0,.str [],.str [],J 0,J 0,J 0,J 0,.flt .f64 0,.nsl,J 0,J 0,.str [],.str [],J 0,J 0,J 0,J 0,.flt .f64 0,.nsl,.nsl,.nsl,.str [99],J 0,J 0,.vsl 2 10 (Ae 81 10++Ae 96 10),106])<|Iq 70 4 77 (Cf 150 r_ [64,71,J 1,J 2] 78 11<|Dn [J 4,J 0,J 0,.str [],.str [],J 0,J 0,J 0,J 0,.flt .f64 0,.nsl,J 0,J 0,.str [],.str [],J 0,J 0,J 0,J 0,.flt .f64 0,.nsl,.nsl,.nsl,.str [101],J 0,J 0,.vsl 1 10 (Ae 82 10),92])<|Iq 70 5 78 (Cf 150 r_ [64,71,J 2,J 2] 79 11<|Cf 150 r_ [64,93,J 2,J 3] 94 11<|Dn [J 1,J 3,J 0,.str [107],.str [],J 0,J 0,J 0,J 0,.flt .f64 0,.vsl 1 10 (Ae 83 10),98,99,100,101,102,103,104,105,106,107,.nsl,.nsl,.str [],J 0,J 0,.nsl,108])<|Cf 46 Bt [64,71,J 6] 79 2<|Li Zn [.vsl 6 1 [.str [111],.str [120],.str [113],.str [121],.str [122],.str [119]],82] 84<|Li Zo [84] 85<|Li Zp [85] 86<|.call 151 [85] 87 [(some 10)]<|Cf 150 r_ [64,83,86,J 4] 97 11<|Dn [J 1,87,88,89,90,91,92,93,94,95,96,101,102,103,104,105,106,107,108,109,110,.nsl,.nsl,.str [],J 0,J 0,.nsl,111])<|Iq 70 2 74 (Cf 150 r_ [64,71,J 1,J 2] 75 11<|Cf 150 r_ [64,89,J 4,J 2] 90 11<|Dn [J 4,J 0,J 0,.str [],.str [],J 0,J 0,J 0,J 0,.flt .f64 0,.nsl,J 0,J 0,.str [],.str [],J 0,J 0,J 0,J 0,.flt .f64 0,.nsl,.nsl,.nsl,.str [116,109],J 0,J 0,.vsl 2 10 (Ae 79 10++Ae 94 10),104])<|Iq 70 3 75 (Cf 150 r_ [64,71,J 1,J 2] 76 11<|Cf 152 I0 [64,90,J 2,J 1] 91 11<|Dn [J 4,J 0,J 0,.str [],.str [],J 0,J 0,J 0,J 0,.flt .f64 0,.nsl,J 0,J 0,.str [],.str [],J 0,J 0,J 0,J 0,.flt .f64 0,.nsl,.nsl,.nsl,.str [99],J 0,J 0,.vsl 2 10 (Ae 80 10++Ae 95 10),105])<|Iq 70 4 76 (Cf 150 r_ [64,71,J 1,J 2] 77 11<|Dn [J 4,J 0,J 0,.str [],.str [],J 0,J 0,J 0,J 0,.flt .f64 0,.nsl,J 0,J 0,.str [],.str [],J 0,J 0,J 0,J 0,.flt .f64 0,.nsl,.nsl,.nsl,.str [101],J 0,J 0,.vsl 1 10 (Ae 81 10),91])<|Iq 70 5 77 (Cf 150 r_ [64,71,J 2,J 2] 78 11<|Cf 150 r_ [64,92,J 2,J 3] 93 11<|Dn [J 1,J 3,J 0,.str [107],.str [],J 0,J 0,J 0,J 0,.flt .f64 0,.vsl 1 10 (Ae 82 10),97,98,99,100,101,102,103,104,105,106,.nsl,.nsl,.str [],J 0,J 0,.nsl,107])<|Cf 46 Bt [64,71,J 6] 78 2<|Li Zn [.vsl 6 1 [.str [111],.str [120],.str [113],.str [121],.str [122],.str [119]],81] 83<|Li Zo [83] 84<|Li Zp [84] 85<|.call 151 [84] 86 [(some 10)]<|Cf 150 r_ [64,82,85,J 4] 96 11<|Dn [J 1,86,87,88,89,90,91,92,93,94,95,100,101,102,103,104,105,106,107,108,109,.nsl,.nsl,.str [],J 0,J 0,.nsl,110]
def qT:VC:=⟨⟨[],[]⟩,[],[(0,[⟨[(8,.slx 0 0 0),(2,67),(0,.ptr 0 0),(7,.slx 1 27 1)],[(0,[64,.slx 2 0 0])],2,3,[⟨1,27,1,7,none⟩],[],[]⟩])],1,true,[(46,Bt),(98,Ly)]⟩
def cA:VT:=Cf 46 Bt [64,65,66] 68 2<|Li Q3 [71,J 1] 73<|.loop 74 0 [73,.nsl,72] (.cons 3 (It Qb [74,J 0] 77 (Cf 98 Ly [64,76,67] 78 28<|Li Zm [75,.agg (Ae 81 27)] 109<|Li Qj [74,J 1] 110<|.again 0 0 [110,109,108])<|Dn [75,76]) .nil)
def SQ (l:List GS) (s:GS) (hl:l.length<=1000):(XOp.app 27 336).run Tryz.prog [CK l,.agg (DQ s)]=some (CK (l++[s])):=by rw [Sm,Sm];exact V3 XK (by decide) (by decide) l s (by omega)
def Pp {a:AV} (h:okC a=true) {n m k:Int}:Ak [a,.int .i64 n,.int .i64 m,.int .i64 k]=true:=by simp only [Ak,okC,h]
def cK {l:List UInt8} {a:AV} (hp:Pk l a) (d:Nat) (hd2:d<=100) (hB:∀e,d=e+1->PB l a e):PS l a d:=by
 intro n hn;have hA:=hp.1.ok Jm;have h2:∀(n:Nat) (k:Int),n<=l.length->1<=k/\k<=5->Bl 150 LA [a,.int .i64 (n:Int),.int .i64 k,.int .i64 2] (RX l 2):=(pX hp 1 (by decide)).2;have h3:∀(n:Nat) (k:Int),n<=l.length->1<=k/\k<=5->Bl 150 LA [a,.int .i64 (n:Int),.int .i64 k,.int .i64 3] (RX l 3):=(pX hp 2 (by decide)).2;have h4:∀(n:Nat) (k:Int),n<=l.length->1<=k/\k<=5->Bl 150 LA [a,.int .i64 (n:Int),.int .i64 k,.int .i64 4] (RX l 4):=(pX hp 3 (by decide)).2;have h31:∀(n:Nat) (k:Int),n<=l.length->1<=k/\k<=5->Bl 152 LA [a,.int .i64 (n:Int),.int .i64 k,.int .i64 1] (RX l 1):=(pX hp 0 (by decide)).1;refine B3 vc bY rfl rfl (by kernel_rfl) λY hf hg=>?_;unfold bY
 (refine a_ (Dm hp hn (by first|decide|omega) (by first|decide|omega)) rfl (Df hA) ⟨?_,trivial⟩;intro ws hw;rcases hw with ⟨v,n,rfl,hv,hn⟩)
 (refine C_ rfl rfl (λh=>?_) (λh=>?_)<;>rw [w_]at h)
 ·(refine C_ rfl rfl (λh=>?_) (λh=>?_)<;>rw [w_]at h)
  .obtain ⟨e,rfl⟩:∃e,d=e+1:=⟨d-1,by simp at h;omega⟩;have hB:=hB e rfl
   (refine a_ (h3 _ _ hn (by decide)) rfl (BO hA) ⟨?_,trivial⟩;intro ws hw;obtain ⟨⟨op,kd,nm,fd,ad,nn,vk,vi,vf,ag⟩,n,rfl,hx,hn⟩:=hw;replace hx:=j_ (e:=5) (by decide) hx)
   refine Aa (V_ (z:=(e:Int)) (by omega) (by omega) (by omega)) rfl ?_;refine a_ (hB _ 2 hn (by decide) (by decide)) rfl (Pp hA) ⟨?_,trivial⟩;rintro ws ⟨thn,n,rfl,⟨ht,D4⟩,hn⟩
   (refine a_ (Dm hp hn (by first|decide|omega) (by first|decide|omega)) rfl (Df hA) ⟨?_,trivial⟩;intro ws hw;rcases hw with ⟨v,n,rfl,hv,hn⟩)
   (refine C_ rfl rfl (λh=>?_) (λh=>?_)<;>rw [w_]at h)
   refine Aa (V_ (z:=(e:Int)) (by omega) (by omega) (by omega)) rfl ?_;refine a_ (hB _ 2 hn (by decide) (by decide)) rfl (Pp hA) ⟨?_,trivial⟩;rintro ws ⟨els,n,rfl,⟨he,hes⟩,hn⟩;exact Dx (x:=.mk _ (.mk _ _ _ _ _ _ _ _ _ []) (.mk ..) thn els _ _ _ []) rfl (SX (.inl rfl) (by assumption) (by omega) (by omega) D4 hes) hn;exact Dx (x:=.mk _ (.mk _ _ _ _ _ _ _ _ _ []) (.mk ..) thn [] _ _ _ []) rfl (SX (.inl rfl) (by assumption) (by omega) (by decide) D4 (λs hs=>(za' hs).elim)) hn
  ·(
    (refine C_ rfl rfl (λh=>?_) (λh=>?_)<;>rw [w_]at h)
    ·(refine C_ rfl rfl (λh=>?_) (λh=>?_)<;>rw [w_]at h)
     .obtain ⟨e,rfl⟩:∃e,d=e+1:=⟨d-1,by simp at h;omega⟩;have hB:=hB e rfl;refine Aq (Jl _) rfl rfl ?_
      (refine a_ (h31 _ _ hn (by first|decide|(simp only [AH,AY]at *; omega))) rfl (BO hA) ⟨?_,trivial⟩;intro ws hw;obtain ⟨⟨op,kd,nm,fd,ad,nn,vk,vi,vf,ag⟩,n,rfl,hx,hn⟩:=hw)
      refine Aa (V_ (z:=(e:Int)) (by omega) (by omega) (by omega)) rfl ?_;refine a_ (hB _ 1 hn (by decide) (by decide)) rfl (Pp hA) ⟨?_,trivial⟩;rintro ws ⟨thn,n,rfl,⟨ht,D4⟩,hn⟩;refine Aq (Jl _) rfl rfl (Aq (Jl _) rfl rfl (Aq lT rfl rfl ?_));refine Aa (SQ thn (.mk 1 (.mk _ _ _ _ _ _ _ _ _ []) (.mk _ _ _ _ _ _ _ _ _ [.mk _ _ _ _ _ _ _ _ _ [],.mk _ _ _ _ _ _ _ _ _ []]) [] [] _ _ _ []) (by omega)) (ES _) ?_;refine Dx (x:=.mk _ (.mk _ _ _ _ _ _ _ _ _ []) (.mk _ _ _ _ _ _ _ _ _ [.mk _ _ _ _ _ _ _ _ _ [],.mk ..]) (thn++[_]) [] _ _ _ []) rfl (SX (.inr rfl) ?_ ?_ (by decide) ?_ (λs hs=>(za' hs).elim)) hn;exact JM (by decide) (J_ (by decide)) (j_ (e:=4) (by decide) hx);rw [List.length_append];simp;omega;intro s hs;rcases List.mem_append.1 hs with hs|hs;exact D4 s hs;cases List.mem_singleton.1 hs;exact IL (N6 (by decide)) (.inl rfl) (JM (by decide) (J_ (by decide)) (Gy (by unfold FJ;omega) (.inl rfl)))
     ·(
       (refine C_ rfl rfl (λh=>?_) (λh=>?_)<;>rw [w_]at h)
       ·(refine a_ (h2 _ _ hn (by decide)) rfl (BO hA) ⟨?_,trivial⟩;intro ws hw;obtain ⟨⟨op,kd,nm,fd,ad,nn,vk,vi,vf,ag⟩,n,rfl,hx,hn⟩:=hw;replace hx:=j_ (e:=5) (by decide) hx);(refine a_ (h2 _ _ hn (by decide)) rfl (BO hA) ⟨?_,trivial⟩;intro ws hw;obtain ⟨⟨op,kd,nm,fd,ad,nn,vk,vi,vf,ag⟩,n,rfl,hx,hn⟩:=hw;replace hx:=j_ (e:=5) (by decide) hx);exact Dx (x:=.mk _ (.mk _ _ _ _ _ _ _ _ _ []) (.mk _ _ _ _ _ _ _ _ _ []) [] [] _ _ _ [.mk ..,.mk ..]) rfl (Hh (by decide) (by simp) (Ku (by assumption) (by assumption))) hn
       (refine C_ rfl rfl (λh=>?_) (λh=>?_)<;>rw [w_]at h)
       ·(refine a_ (h2 _ _ hn (by decide)) rfl (BO hA) ⟨?_,trivial⟩;intro ws hw;obtain ⟨⟨op,kd,nm,fd,ad,nn,vk,vi,vf,ag⟩,n,rfl,hx,hn⟩:=hw;replace hx:=j_ (e:=5) (by decide) hx);(refine a_ (h31 _ _ hn (by decide)) rfl (BO hA) ⟨?_,trivial⟩;intro ws hw;obtain ⟨⟨op,kd,nm,fd,ad,nn,vk,vi,vf,ag⟩,n,rfl,hx,hn⟩:=hw;replace hx:=j_ (e:=5) (by decide) hx);exact Dx (x:=.mk _ (.mk _ _ _ _ _ _ _ _ _ []) (.mk _ _ _ _ _ _ _ _ _ []) [] [] _ _ _ [.mk ..,.mk ..]) rfl (Hh (by decide) (by simp) (Ku (by assumption) (by assumption))) hn
       (refine C_ rfl rfl (λh=>?_) (λh=>?_)<;>rw [w_]at h)
       ·(refine a_ (h2 _ _ hn (by decide)) rfl (BO hA) ⟨?_,trivial⟩;intro ws hw;obtain ⟨⟨op,kd,nm,fd,ad,nn,vk,vi,vf,ag⟩,n,rfl,hx,hn⟩:=hw;replace hx:=j_ (e:=5) (by decide) hx);exact Dx (x:=.mk _ (.mk _ _ _ _ _ _ _ _ _ []) (.mk _ _ _ _ _ _ _ _ _ []) [] [] _ _ _ [.mk ..]) rfl (Hh (by decide) (by simp) (Pw (by assumption))) hn
       (refine C_ rfl rfl (λh=>?_) (λh=>?_)<;>rw [w_]at h)
       ·(refine a_ (h2 _ _ hn (by first|decide|(simp only [AH,AY]at *; omega))) rfl (BO hA) ⟨?_,trivial⟩;intro ws hw;obtain ⟨⟨op,kd,nm,fd,ad,nn,vk,vi,vf,ag⟩,n,rfl,hx,hn⟩:=hw);rename WX _ _=>hx0;(refine a_ (h3 _ _ hn (by decide)) rfl (BO hA) ⟨?_,trivial⟩;intro ws hw;obtain ⟨⟨op,kd,nm,fd,ad,nn,vk,vi,vf,ag⟩,n,rfl,hx,hn⟩:=hw;replace hx:=j_ (e:=5) (by decide) hx)
        exact Dx (x:=.mk _ (.mk _ _ _ _ _ _ _ _ _ [.mk ..]) (.mk ..) [] [] _ _ _ []) rfl (IL (j_ (d:=4) (by decide) (Ki (by decide) hx0)) (.inr rfl) (by assumption)) hn
       ·(refine a_ (Dm hp hn (by first|decide|omega) (by first|decide|omega)) rfl (Df hA) ⟨?_,trivial⟩;intro ws hw;rcases hw with ⟨v,n,rfl,hv,hn⟩)
        have e6:v=0\/v=1\/v=2\/v=3\/v=4\/v=5:=(by omega);rcases e6 with rfl|rfl|rfl|rfl|rfl|rfl;all_goals
         refine Aa rfl rfl (Aa rfl rfl (Aa rfl rfl (Aq (Jl _) rfl rfl ?_)))
         (refine a_ (h4 _ _ hn (by decide)) rfl (BO hA) ⟨?_,trivial⟩;intro ws hw;obtain ⟨⟨op,kd,nm,fd,ad,nn,vk,vi,vf,ag⟩,n,rfl,hx,hn⟩:=hw;replace hx:=j_ (e:=5) (by decide) hx)
         exact Dx (x:=.mk _ (.mk _ _ _ _ _ _ _ _ _ []) (.mk ..) [] [] _ _ _ []) rfl (IL (N6 (by decide)) (.inl rfl) (by assumption)) hn)
    ·(
      (refine C_ rfl rfl (λh=>?_) (λh=>?_)<;>rw [w_]at h)
      ·(refine a_ (h2 _ _ hn (by decide)) rfl (BO hA) ⟨?_,trivial⟩;intro ws hw;obtain ⟨⟨op,kd,nm,fd,ad,nn,vk,vi,vf,ag⟩,n,rfl,hx,hn⟩:=hw;replace hx:=j_ (e:=5) (by decide) hx);(refine a_ (h2 _ _ hn (by decide)) rfl (BO hA) ⟨?_,trivial⟩;intro ws hw;obtain ⟨⟨op,kd,nm,fd,ad,nn,vk,vi,vf,ag⟩,n,rfl,hx,hn⟩:=hw;replace hx:=j_ (e:=5) (by decide) hx);exact Dx (x:=.mk _ (.mk _ _ _ _ _ _ _ _ _ []) (.mk _ _ _ _ _ _ _ _ _ []) [] [] _ _ _ [.mk ..,.mk ..]) rfl (Hh (by decide) (by simp) (Ku (by assumption) (by assumption))) hn
      (refine C_ rfl rfl (λh=>?_) (λh=>?_)<;>rw [w_]at h)
      ·(refine a_ (h2 _ _ hn (by decide)) rfl (BO hA) ⟨?_,trivial⟩;intro ws hw;obtain ⟨⟨op,kd,nm,fd,ad,nn,vk,vi,vf,ag⟩,n,rfl,hx,hn⟩:=hw;replace hx:=j_ (e:=5) (by decide) hx);(refine a_ (h31 _ _ hn (by decide)) rfl (BO hA) ⟨?_,trivial⟩;intro ws hw;obtain ⟨⟨op,kd,nm,fd,ad,nn,vk,vi,vf,ag⟩,n,rfl,hx,hn⟩:=hw;replace hx:=j_ (e:=5) (by decide) hx);exact Dx (x:=.mk _ (.mk _ _ _ _ _ _ _ _ _ []) (.mk _ _ _ _ _ _ _ _ _ []) [] [] _ _ _ [.mk ..,.mk ..]) rfl (Hh (by decide) (by simp) (Ku (by assumption) (by assumption))) hn
      (refine C_ rfl rfl (λh=>?_) (λh=>?_)<;>rw [w_]at h)
      ·(refine a_ (h2 _ _ hn (by decide)) rfl (BO hA) ⟨?_,trivial⟩;intro ws hw;obtain ⟨⟨op,kd,nm,fd,ad,nn,vk,vi,vf,ag⟩,n,rfl,hx,hn⟩:=hw;replace hx:=j_ (e:=5) (by decide) hx);exact Dx (x:=.mk _ (.mk _ _ _ _ _ _ _ _ _ []) (.mk _ _ _ _ _ _ _ _ _ []) [] [] _ _ _ [.mk ..]) rfl (Hh (by decide) (by simp) (Pw (by assumption))) hn
      (refine C_ rfl rfl (λh=>?_) (λh=>?_)<;>rw [w_]at h)
      ·(refine a_ (h2 _ _ hn (by first|decide|(simp only [AH,AY]at *; omega))) rfl (BO hA) ⟨?_,trivial⟩;intro ws hw;obtain ⟨⟨op,kd,nm,fd,ad,nn,vk,vi,vf,ag⟩,n,rfl,hx,hn⟩:=hw);rename WX _ _=>hx0;(refine a_ (h3 _ _ hn (by decide)) rfl (BO hA) ⟨?_,trivial⟩;intro ws hw;obtain ⟨⟨op,kd,nm,fd,ad,nn,vk,vi,vf,ag⟩,n,rfl,hx,hn⟩:=hw;replace hx:=j_ (e:=5) (by decide) hx)
       exact Dx (x:=.mk _ (.mk _ _ _ _ _ _ _ _ _ [.mk ..]) (.mk ..) [] [] _ _ _ []) rfl (IL (j_ (d:=4) (by decide) (Ki (by decide) hx0)) (.inr rfl) (by assumption)) hn
      ·(refine a_ (Dm hp hn (by first|decide|omega) (by first|decide|omega)) rfl (Df hA) ⟨?_,trivial⟩;intro ws hw;rcases hw with ⟨v,n,rfl,hv,hn⟩)
       have e6:v=0\/v=1\/v=2\/v=3\/v=4\/v=5:=(by omega);rcases e6 with rfl|rfl|rfl|rfl|rfl|rfl;all_goals
        refine Aa rfl rfl (Aa rfl rfl (Aa rfl rfl (Aq (Jl _) rfl rfl ?_)))
        (refine a_ (h4 _ _ hn (by decide)) rfl (BO hA) ⟨?_,trivial⟩;intro ws hw;obtain ⟨⟨op,kd,nm,fd,ad,nn,vk,vi,vf,ag⟩,n,rfl,hx,hn⟩:=hw;replace hx:=j_ (e:=5) (by decide) hx)
        exact Dx (x:=.mk _ (.mk _ _ _ _ _ _ _ _ _ []) (.mk ..) [] [] _ _ _ []) rfl (IL (N6 (by decide)) (.inl rfl) (by assumption)) hn))
 ·(
   (refine C_ rfl rfl (λh=>?_) (λh=>?_)<;>rw [w_]at h)
   ·(refine C_ rfl rfl (λh=>?_) (λh=>?_)<;>rw [w_]at h)
    .obtain ⟨e,rfl⟩:∃e,d=e+1:=⟨d-1,by simp at h;omega⟩;have hB:=hB e rfl;refine Aq (Jl _) rfl rfl ?_
     (refine a_ (h31 _ _ hn (by first|decide|(simp only [AH,AY]at *; omega))) rfl (BO hA) ⟨?_,trivial⟩;intro ws hw;obtain ⟨⟨op,kd,nm,fd,ad,nn,vk,vi,vf,ag⟩,n,rfl,hx,hn⟩:=hw)
     refine Aa (V_ (z:=(e:Int)) (by omega) (by omega) (by omega)) rfl ?_;refine a_ (hB _ 1 hn (by decide) (by decide)) rfl (Pp hA) ⟨?_,trivial⟩;rintro ws ⟨thn,n,rfl,⟨ht,D4⟩,hn⟩;refine Aq (Jl _) rfl rfl (Aq (Jl _) rfl rfl (Aq lT rfl rfl ?_));refine Aa (SQ thn (.mk 1 (.mk _ _ _ _ _ _ _ _ _ []) (.mk _ _ _ _ _ _ _ _ _ [.mk _ _ _ _ _ _ _ _ _ [],.mk _ _ _ _ _ _ _ _ _ []]) [] [] _ _ _ []) (by omega)) (ES _) ?_;refine Dx (x:=.mk _ (.mk _ _ _ _ _ _ _ _ _ []) (.mk _ _ _ _ _ _ _ _ _ [.mk _ _ _ _ _ _ _ _ _ [],.mk ..]) (thn++[_]) [] _ _ _ []) rfl (SX (.inr rfl) ?_ ?_ (by decide) ?_ (λs hs=>(za' hs).elim)) hn;exact JM (by decide) (J_ (by decide)) (j_ (e:=4) (by decide) hx);rw [List.length_append];simp;omega;intro s hs;rcases List.mem_append.1 hs with hs|hs;exact D4 s hs;cases List.mem_singleton.1 hs;exact IL (N6 (by decide)) (.inl rfl) (JM (by decide) (J_ (by decide)) (Gy (by unfold FJ;omega) (.inl rfl)))
    ·(
      (refine C_ rfl rfl (λh=>?_) (λh=>?_)<;>rw [w_]at h)
      ·(refine a_ (h2 _ _ hn (by decide)) rfl (BO hA) ⟨?_,trivial⟩;intro ws hw;obtain ⟨⟨op,kd,nm,fd,ad,nn,vk,vi,vf,ag⟩,n,rfl,hx,hn⟩:=hw;replace hx:=j_ (e:=5) (by decide) hx);(refine a_ (h2 _ _ hn (by decide)) rfl (BO hA) ⟨?_,trivial⟩;intro ws hw;obtain ⟨⟨op,kd,nm,fd,ad,nn,vk,vi,vf,ag⟩,n,rfl,hx,hn⟩:=hw;replace hx:=j_ (e:=5) (by decide) hx);exact Dx (x:=.mk _ (.mk _ _ _ _ _ _ _ _ _ []) (.mk _ _ _ _ _ _ _ _ _ []) [] [] _ _ _ [.mk ..,.mk ..]) rfl (Hh (by decide) (by simp) (Ku (by assumption) (by assumption))) hn
      (refine C_ rfl rfl (λh=>?_) (λh=>?_)<;>rw [w_]at h)
      ·(refine a_ (h2 _ _ hn (by decide)) rfl (BO hA) ⟨?_,trivial⟩;intro ws hw;obtain ⟨⟨op,kd,nm,fd,ad,nn,vk,vi,vf,ag⟩,n,rfl,hx,hn⟩:=hw;replace hx:=j_ (e:=5) (by decide) hx);(refine a_ (h31 _ _ hn (by decide)) rfl (BO hA) ⟨?_,trivial⟩;intro ws hw;obtain ⟨⟨op,kd,nm,fd,ad,nn,vk,vi,vf,ag⟩,n,rfl,hx,hn⟩:=hw;replace hx:=j_ (e:=5) (by decide) hx);exact Dx (x:=.mk _ (.mk _ _ _ _ _ _ _ _ _ []) (.mk _ _ _ _ _ _ _ _ _ []) [] [] _ _ _ [.mk ..,.mk ..]) rfl (Hh (by decide) (by simp) (Ku (by assumption) (by assumption))) hn
      (refine C_ rfl rfl (λh=>?_) (λh=>?_)<;>rw [w_]at h)
      ·(refine a_ (h2 _ _ hn (by decide)) rfl (BO hA) ⟨?_,trivial⟩;intro ws hw;obtain ⟨⟨op,kd,nm,fd,ad,nn,vk,vi,vf,ag⟩,n,rfl,hx,hn⟩:=hw;replace hx:=j_ (e:=5) (by decide) hx);exact Dx (x:=.mk _ (.mk _ _ _ _ _ _ _ _ _ []) (.mk _ _ _ _ _ _ _ _ _ []) [] [] _ _ _ [.mk ..]) rfl (Hh (by decide) (by simp) (Pw (by assumption))) hn
      (refine C_ rfl rfl (λh=>?_) (λh=>?_)<;>rw [w_]at h)
      ·(refine a_ (h2 _ _ hn (by first|decide|(simp only [AH,AY]at *; omega))) rfl (BO hA) ⟨?_,trivial⟩;intro ws hw;obtain ⟨⟨op,kd,nm,fd,ad,nn,vk,vi,vf,ag⟩,n,rfl,hx,hn⟩:=hw);rename WX _ _=>hx0;(refine a_ (h3 _ _ hn (by decide)) rfl (BO hA) ⟨?_,trivial⟩;intro ws hw;obtain ⟨⟨op,kd,nm,fd,ad,nn,vk,vi,vf,ag⟩,n,rfl,hx,hn⟩:=hw;replace hx:=j_ (e:=5) (by decide) hx)
       exact Dx (x:=.mk _ (.mk _ _ _ _ _ _ _ _ _ [.mk ..]) (.mk ..) [] [] _ _ _ []) rfl (IL (j_ (d:=4) (by decide) (Ki (by decide) hx0)) (.inr rfl) (by assumption)) hn
      ·(refine a_ (Dm hp hn (by first|decide|omega) (by first|decide|omega)) rfl (Df hA) ⟨?_,trivial⟩;intro ws hw;rcases hw with ⟨v,n,rfl,hv,hn⟩)
       have e6:v=0\/v=1\/v=2\/v=3\/v=4\/v=5:=(by omega);rcases e6 with rfl|rfl|rfl|rfl|rfl|rfl;all_goals
        refine Aa rfl rfl (Aa rfl rfl (Aa rfl rfl (Aq (Jl _) rfl rfl ?_)))
        (refine a_ (h4 _ _ hn (by decide)) rfl (BO hA) ⟨?_,trivial⟩;intro ws hw;obtain ⟨⟨op,kd,nm,fd,ad,nn,vk,vi,vf,ag⟩,n,rfl,hx,hn⟩:=hw;replace hx:=j_ (e:=5) (by decide) hx)
        exact Dx (x:=.mk _ (.mk _ _ _ _ _ _ _ _ _ []) (.mk ..) [] [] _ _ _ []) rfl (IL (N6 (by decide)) (.inl rfl) (by assumption)) hn)
   ·(
     (refine C_ rfl rfl (λh=>?_) (λh=>?_)<;>rw [w_]at h)
     ·(refine a_ (h2 _ _ hn (by decide)) rfl (BO hA) ⟨?_,trivial⟩;intro ws hw;obtain ⟨⟨op,kd,nm,fd,ad,nn,vk,vi,vf,ag⟩,n,rfl,hx,hn⟩:=hw;replace hx:=j_ (e:=5) (by decide) hx);(refine a_ (h2 _ _ hn (by decide)) rfl (BO hA) ⟨?_,trivial⟩;intro ws hw;obtain ⟨⟨op,kd,nm,fd,ad,nn,vk,vi,vf,ag⟩,n,rfl,hx,hn⟩:=hw;replace hx:=j_ (e:=5) (by decide) hx);exact Dx (x:=.mk _ (.mk _ _ _ _ _ _ _ _ _ []) (.mk _ _ _ _ _ _ _ _ _ []) [] [] _ _ _ [.mk ..,.mk ..]) rfl (Hh (by decide) (by simp) (Ku (by assumption) (by assumption))) hn
     (refine C_ rfl rfl (λh=>?_) (λh=>?_)<;>rw [w_]at h)
     ·(refine a_ (h2 _ _ hn (by decide)) rfl (BO hA) ⟨?_,trivial⟩;intro ws hw;obtain ⟨⟨op,kd,nm,fd,ad,nn,vk,vi,vf,ag⟩,n,rfl,hx,hn⟩:=hw;replace hx:=j_ (e:=5) (by decide) hx);(refine a_ (h31 _ _ hn (by decide)) rfl (BO hA) ⟨?_,trivial⟩;intro ws hw;obtain ⟨⟨op,kd,nm,fd,ad,nn,vk,vi,vf,ag⟩,n,rfl,hx,hn⟩:=hw;replace hx:=j_ (e:=5) (by decide) hx);exact Dx (x:=.mk _ (.mk _ _ _ _ _ _ _ _ _ []) (.mk _ _ _ _ _ _ _ _ _ []) [] [] _ _ _ [.mk ..,.mk ..]) rfl (Hh (by decide) (by simp) (Ku (by assumption) (by assumption))) hn
     (refine C_ rfl rfl (λh=>?_) (λh=>?_)<;>rw [w_]at h)
     ·(refine a_ (h2 _ _ hn (by decide)) rfl (BO hA) ⟨?_,trivial⟩;intro ws hw;obtain ⟨⟨op,kd,nm,fd,ad,nn,vk,vi,vf,ag⟩,n,rfl,hx,hn⟩:=hw;replace hx:=j_ (e:=5) (by decide) hx);exact Dx (x:=.mk _ (.mk _ _ _ _ _ _ _ _ _ []) (.mk _ _ _ _ _ _ _ _ _ []) [] [] _ _ _ [.mk ..]) rfl (Hh (by decide) (by simp) (Pw (by assumption))) hn
     (refine C_ rfl rfl (λh=>?_) (λh=>?_)<;>rw [w_]at h)
     ·(refine a_ (h2 _ _ hn (by first|decide|(simp only [AH,AY]at *; omega))) rfl (BO hA) ⟨?_,trivial⟩;intro ws hw;obtain ⟨⟨op,kd,nm,fd,ad,nn,vk,vi,vf,ag⟩,n,rfl,hx,hn⟩:=hw);rename WX _ _=>hx0;(refine a_ (h3 _ _ hn (by decide)) rfl (BO hA) ⟨?_,trivial⟩;intro ws hw;obtain ⟨⟨op,kd,nm,fd,ad,nn,vk,vi,vf,ag⟩,n,rfl,hx,hn⟩:=hw;replace hx:=j_ (e:=5) (by decide) hx)
      exact Dx (x:=.mk _ (.mk _ _ _ _ _ _ _ _ _ [.mk ..]) (.mk ..) [] [] _ _ _ []) rfl (IL (j_ (d:=4) (by decide) (Ki (by decide) hx0)) (.inr rfl) (by assumption)) hn
     ·(refine a_ (Dm hp hn (by first|decide|omega) (by first|decide|omega)) rfl (Df hA) ⟨?_,trivial⟩;intro ws hw;rcases hw with ⟨v,n,rfl,hv,hn⟩)
      have e6:v=0\/v=1\/v=2\/v=3\/v=4\/v=5:=(by omega);rcases e6 with rfl|rfl|rfl|rfl|rfl|rfl;all_goals
       refine Aa rfl rfl (Aa rfl rfl (Aa rfl rfl (Aq (Jl _) rfl rfl ?_)))
       (refine a_ (h4 _ _ hn (by decide)) rfl (BO hA) ⟨?_,trivial⟩;intro ws hw;obtain ⟨⟨op,kd,nm,fd,ad,nn,vk,vi,vf,ag⟩,n,rfl,hx,hn⟩:=hw;replace hx:=j_ (e:=5) (by decide) hx)
       exact Dx (x:=.mk _ (.mk _ _ _ _ _ _ _ _ _ []) (.mk ..) [] [] _ _ _ []) rfl (IL (N6 (by decide)) (.inl rfl) (by assumption)) hn))
def cO {l:List UInt8} {a:AV} (hp:Pk l a) (d:Nat) (hd2:d<=100) (hS:PS l a d):PB l a d:=by
 intro n m hn hm1 hm2;have hA:=hp.1.ok Jm;refine B3 qT cA rfl rfl (by kernel_rfl) λY hf hg=>?_;unfold cA
 (refine a_ (Dm hp hn (by first|decide|omega) (by first|decide|omega)) rfl (Df hA) ⟨?_,trivial⟩;intro ws hw;rcases hw with ⟨v,n,rfl,hv,hn⟩)
 refine Aa (o_ (by omega) (by omega)) rfl ?_;refine Dv (ι:=Nat×List GS×Nat) (λx=>[.int .i64 (x.1:Int),CK x.2.1,.int .i64 (x.2.2:Int)]) (λx=>x.1+x.2.1.length<=m/\(∀s∈x.2.1,WS (d+1) s)/\x.2.2<=l.length) (λx=>x.1) (v+1,[],n)
  ⟨by simp;omega,λs hs=>(za' hs).elim,hn⟩ rfl (λx _=>by simp only [Ak,okC,ES]) (λx y _ _ h=>by simp at h;omega) (λx hx=>?_)
 obtain ⟨i,ss,n⟩:=x;obtain ⟨h1,h2,hn⟩:=hx;simp only at h1 hn h2⊢
 (refine C_ rfl rfl (λh=>?_) (λh=>?_)<;>rw [w_]at h)
 refine a_ (hS _ hn) rfl (Df hA) ⟨?_,trivial⟩;rintro ws ⟨⟨op,⟨op1,kd1,nm1,fd1,ad1,nn1,vk1,vi1,vf1,args1⟩,⟨op2,kd2,nm2,fd2,ad2,nn2,vk2,vi2,vf2,PM⟩,thn,els,nm,kd,ad,ag⟩,n,rfl,hx,hn⟩;refine Aa (SQ ss (.mk op (.mk op1 kd1 nm1 fd1 ad1 nn1 vk1 vi1 vf1 args1) (.mk op2 kd2 nm2 fd2 ad2 nn2 vk2 vi2 vf2 PM) thn els nm kd ad ag) (by omega)) (ES _) ?_;obtain ⟨i,rfl⟩:∃e,i=e+1:=⟨i-1,by simp at h;omega⟩;refine Aa (V_ (z:=(i:Int)) (by omega) (by omega) (by omega)) rfl ?_;refine Cb rfl ⟨(i,ss++[_],n),⟨?_,?_,hn⟩,rfl,by simp⟩;simp;omega;intro s hs;rcases List.mem_append.1 hs with hs|hs;exact h2 s hs;cases List.mem_singleton.1 hs;exact hx;exact Ai (by show Ak [CK ss,.int .i64 (n:Int)]=true;simp only [Ak,okC,ES]) ⟨ss,n,rfl,⟨by omega,h2⟩,hn⟩
def pS {l:List UInt8} {a:AV} (hp:Pk l a):∀d:Nat,d<=100->PS l a d/\PB l a d
 |0,h=>by have h1:=cK hp 0 h (λe h=>by omega);exact ⟨h1,cO hp 0 h h1⟩
 |d+1,h=>by have ih:=pS hp d (by omega);have h1:=cK hp (d+1) h (λe h=>by cases h;exact ih.2);exact ⟨h1,cO hp (d+1) h h1⟩
end Go.Proofs.YtelnbodnjmldeaaGreat.vars
