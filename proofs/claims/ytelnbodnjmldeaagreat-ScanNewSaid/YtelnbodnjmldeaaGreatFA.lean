/-
  A symbol as a number, a number as a value: short names for trees.
-/
import Derived.Test.YtelnbodnjmldeaaGreatSyK
import Derived.Test.YtelnbodnjmldeaaGreatRows
import Derived.KernelRfl
import Derived.Test.YtelnbodnjmldeaaGreatSyD
namespace Go.Proofs.YtelnbodnjmldeaaGreat.vars
open Go Go.Sx
instance symN (n:Nat):OfNat AV n:=⟨.sym n⟩
abbrev J (n:Int):AV:=.int .i64 n
abbrev K (o:XOp) (a:List AV) (i:Nat) (t:VT):VT:=.lt o a i none t
abbrev Q0:XOp:=.bin .eql 3 false true
abbrev Li (o:XOp) (a:List AV) (n:Nat) (t:VT):VT:=.lt o a n none t
abbrev It (o:XOp) (a:List AV) (n:Nat) (A B:VT):VT:=.lt o a n none (.ite n A B)
abbrev Iq (i:Nat) (k:Int) (n:Nat) (A B:VT):VT:=.lt Q0 [.sym i,J k] n none (.ite n A B)
abbrev Dn (l:List AV):VT:=.done (.tup (J 0::l))
abbrev Cf (f:FuncId) (t:FT) (h:List AV) (n k:Nat) (b:VT):VT:=.callF f t h n (.cons k b .nil)
abbrev Q1:XOp:=.bin .neq 3 false true
abbrev Q2:XOp:=.inb
abbrev Q3:XOp:=.bin .add 3 false true
abbrev Q4:XOp:=.bin .geq 3 false true
abbrev Q5:XOp:=.bin .lss 3 false false
abbrev Q6:XOp:=.un .not
abbrev Q7:XOp:=.bin .neq 31 false true
abbrev Q8:XOp:=.bin .leq 3 false true
abbrev Q9:XOp:=.bin .eql 3 false false
abbrev Qa:XOp:=.bin .lss 3 false true
abbrev Qb:XOp:=.bin .gtr 3 false true
abbrev Qc:XOp:=.bin .neq 2 false true
abbrev Qd:XOp:=.bin .neq 3 false false
abbrev Qe:XOp:=.app 3 24
abbrev Qf:XOp:=.len 74
abbrev Qg:XOp:=.iaddr 106
abbrev Qh:XOp:=.len 106
abbrev Qi:XOp:=.len 30
abbrev Qj:XOp:=.bin .sub 3 false true
abbrev Qk:XOp:=.iaddr 30
abbrev Ql:XOp:=.ldx 3 10 1
abbrev Qm:XOp:=.load 108
abbrev Qn:XOp:=.load 3
abbrev Qo:XOp:=.app 10 112
abbrev Qp:XOp:=.ldx 3 1 0
abbrev Qq:XOp:=.bin .eql 2 false false
abbrev Qr:XOp:=.bin .add 3 false false
abbrev Qs:XOp:=.app 7 56
abbrev Qt:XOp:=.bin .eql 2 false true
abbrev Qu:XOp:=.bin .geq 2 false false
abbrev Qv:XOp:=.ldx 2 3 1
abbrev Qw:XOp:=.iaddr 34
abbrev Qx:XOp:=.ldx 62 3 0
abbrev Qy:XOp:=.load 68
abbrev Qz:XOp:=.len 34
abbrev Z0:XOp:=.conv 2 182
abbrev Z1:XOp:=.stx 62 3 0
abbrev Z2:XOp:=.bin .add 3 true false
abbrev Z3:XOp:=.bin .eql 31 false true
abbrev Z4:XOp:=.faddr 68 0
abbrev Z5:XOp:=.len 22
abbrev Z6:XOp:=.opn 21 3
abbrev Z7:XOp:=.bin .geq 3 false false
abbrev Z8:XOp:=.bin .lss 2 false true
abbrev Z9:XOp:=.load 2
abbrev Za:XOp:=.app 2 16
abbrev Zb:XOp:=.un .neg
abbrev Zc:XOp:=.load 62
abbrev Zd:XOp:=.faddr 62 1
abbrev Ze:XOp:=.faddr 108 1
abbrev Zf:XOp:=.bin .neq 60 false false
abbrev Zg:XOp:=.bin .sub 3 false false
abbrev Zh:XOp:=.bin .sub 2 false false
abbrev Zi:XOp:=.conv 5 3
abbrev Zj:XOp:=.bin .eql 34 false true
abbrev Zk:XOp:=.bin .add 2 false false
abbrev Zl:XOp:=.bin .rem 2 false false
abbrev Zm:XOp:=.app 27 336
abbrev Zn:XOp:=.iaddr 216
abbrev Zo:XOp:=.load 9
abbrev Zp:XOp:=.mget 217 [(.str [111],J 2,0),(.str [120],J 2,1),(.str [113],J 1,2),(.str [121],J 3,3),(.str [122],J 5,4),(.str [119],J 4,5)]
abbrev Zq:XOp:=.ldx 108 10 0
abbrev Zr:XOp:=.stx 108 10 0
abbrev Zs:XOp:=.len 25
abbrev Zt:XOp:=.bin .leq 3 false false
abbrev Zu:XOp:=.bin .gtr 3 false false
abbrev Zv:XOp:=.bin .eql 31 false false
abbrev Zw:XOp:=.iaddr 46
abbrev Zx:XOp:=.load 30
abbrev Zy:XOp:=.bin .leq 2 false false
abbrev Zz:XOp:=.conv 2 60
abbrev U0:XOp:=.bin .sub 182 false false
abbrev U1:XOp:=.mm false
abbrev U2:XOp:=.conv 182 2
abbrev U3:XOp:=.stx 3 7 2
abbrev U4:XOp:=.iaddr 25
abbrev U5:XOp:=.load 110
abbrev U8:XOp:=.flat 17 0 1 17
abbrev U9:XOp:=.bin .neq 31 false false
abbrev Ua:XOp:=.bin .neq 2 false false
abbrev Ub:XOp:=.bin .quo 2 false false
abbrev Uc:XOp:=.bin .lss 60 false false
abbrev Ui:XOp:=.bin .eql 182 false true
abbrev Uj:XOp:=.bin .neq 182 false true
abbrev Ut:XOp:=.bin .neq 4 false false
abbrev Uu:XOp:=.bin .lss 2 false false
abbrev Uv:XOp:=.bin .mul 2 false false
abbrev Uw:XOp:=.bin .add 60 false false
abbrev Ux:XOp:=.bin .sub 60 false false
abbrev Uy:XOp:=.bin .mul 60 false false
abbrev Uz:XOp:=.bin .quo 60 false false
abbrev G0:XOp:=.bin .eql 60 false false
abbrev G1:XOp:=.bin .leq 60 false false
abbrev G3:XOp:=.bin .gtr 2 false false
abbrev G4:XOp:=.bin .add 2 false true
abbrev G5:XOp:=.bin .eql 4 false false
abbrev G6:XOp:=.bin .gtr 182 false false
end Go.Proofs.YtelnbodnjmldeaaGreat.vars
set_option linter.unusedVariables false
set_option linter.unusedSimpArgs false
namespace Go.Sx
section
variable {P:Program} {t:TypeId} {ti:TypeInfo} {α:Type} {enc:α->List AV} {w:Nat}
theorem sQ_:∀(a xs b c:List AV),b.length=xs.length->c9_ a.length xs (a++(b++c))=some (a++(xs++c))
 |[],[],[],c,_=>by cases c<;>rfl
 |[],x::xs,y::b,c,h=>by have ih:=sQ_ [] xs b c (by simpa using h);simp only [List.nil_append,List.length_nil,List.cons_append]at ih⊢;simp only [c9_,ih]
 |[],x::xs,[],c,h=>by simp at h
 |[],[],y::b,c,h=>by simp at h
 |x::a,xs,b,c,h=>by simp only [List.cons_append,List.length_cons,c9_,sQ_ a xs b c h]
theorem we_ (hw:∀a,(enc a).length=w) (l:List α) {i:Nat} (hi:i<l.length):∃a b,bA_ enc l=a++(enc l[i]++b)/\a.length=i*w/\∀x,bA_ enc (l.set i x)=a++(enc x++b):=by
 refine ⟨bA_ enc (l.take i),bA_ enc (l.drop (i+1)),?_,?_,λx=>?_⟩;have h1:l=l.take i++l[i]::l.drop (i+1):=(by rw [List.getElem_cons_drop,List.take_append_drop]);have h2:=congrArg (bA_ enc) h1;rw [ev_]at h2;exact h2
 .rw [b0_ hw,List.length_take];congr 1;omega
 rw [List.set_eq_take_append_cons_drop,if_pos hi,ev_];rfl
theorem run_stx (hw:∀a,(enc a).length=w) {l:List α} {i:Nat} (hi:i<l.length) {off:Nat} {v:AV} {xs p q r:List AV} {y:α} (hc:v.cells=xs) (ho:v=.agg xs\/(∃k n,v=.int k n)) (hinf:P.info? t=some ti) (hs:ti.size=xs.length) (h1:ba_ xs=true)
  (he:enc l[i]=p++(q++r)) (hp:p.length=off) (hq:q.length=xs.length) (hy:enc y=p++(xs++r)) (k:IntKind):(XOp.stx t w off).run P [a3_ enc w l,.int k (i:Int),v]=some (a3_ enc w (l.set i y)):=by
 obtain ⟨a,b,e1,e2,e3⟩:=we_ hw l hi;obtain ⟨x0,l',rfl⟩:∃x l',l=x::l':=by cases l with|nil=>simp at hi|cons x l'=>exact ⟨x,l',rfl⟩
 have cK_:∃z l'',(x0::l').set i y=z::l''/\l''.length=l'.length:=by
  cases i with
  |zero=>exact ⟨y,l',rfl,rfl⟩
  |succ i=>exact ⟨x0,l'.set i y,rfl,by simp⟩
 obtain ⟨z,l'',e4,e5⟩:=cK_;have hst:ca_ P (ry_ (bA_ enc (x0::l'))) t (.ptr 0 (i*w+off)) v=some (.tup [],(ry_ (bA_ enc (x0::l'))).set 0 (.cells (bA_ enc ((x0::l').set i y)))):=by have hg:(ry_ (bA_ enc (x0::l'))).get 0=some (.cells (bA_ enc (x0::l'))):=rfl;have hsa:c9_ (i*w+off) xs (bA_ enc (x0::l'))=some (bA_ enc ((x0::l').set i y)):=(by have:=sQ_ (a++p) xs q (r++b) hq;rw [List.length_append,e2,hp]at this;rw [e1,he,e3,hy];simpa [List.append_assoc]using this);have hb:Nat.beq xs.length ti.size=true:=(by rw [hs];exact Nat.beq_refl _);rcases ho with rfl|⟨k',n,rfl⟩;simp only [ca_,hinf];have hc':(AV.agg xs).cells=xs:=hc;simp only [hc',hb,h1,hg,hsa];simp only [ca_,hinf];simp only [hc,hb,h1,hg,hsa]
 show (match ca_ P (ry_ (bA_ enc (x0::l'))) t (.ptr 0 (Nat.add (Nat.mul i w) off)) v with
  |some r=>match r.2.get 0 with
   |some (.cells cs')=>some (AV.vsl (l'.length+1) w cs')
   |_=>none
  |none=>none)=_
 have e6:Nat.add (Nat.mul i w) off=i*w+off:=rfl;rw [e6,hst];have hg2:∀c:List AV,((ry_ (bA_ enc (x0::l'))).set 0 (.cells c)).get 0=some (.cells c):=λc=>rfl;simp only [hg2];rw [e4];show _=some (AV.vsl (l''.length+1) w (bA_ enc (z::l'')));rw [e5]
theorem us_ {l:List α} {i:Nat} (hi:i<l.length) (k:IntKind):(XOp.inb).run P [a3_ enc w l,.int k (i:Int)]=some (.int .i64 (i:Int)):=by
 cases l with
 |nil=>simp at hi
 |cons x r=>
  show (match Sx.idx (i:Int) (r.length+1)with|some n=>some (AV.int .i64 (.ofNat n))|none=>none)=_;have hb:Nat.blt i (r.length+1)=true:=(by simpa [Nat.blt_eq]using hi);have:Sx.idx (i:Int) (r.length+1)=some i:=by show (match Nat.blt i (r.length+1)with|true=>some i|false=>none)=some i;rw [hb]
  rw [this];rfl
end
theorem v3_:∀{l:List AV},okL l=true->ba_ l=true
 |[],_=>rfl
 |a::r,h=>by rw [aX_]at h;obtain ⟨h1,h2⟩:=aa_ h;have:a.one=true:=(by cases a<;>first|rfl|(simp [okC]at h1));simp only [ba_,this,v3_ h2]
end Go.Sx
set_option maxRecDepth 100000
set_option linter.unusedVariables false
set_option linter.unusedSimpArgs false
namespace Go.Sx
section
variable {P:Program} {t:TypeId} {ti:TypeInfo} {α:Type} {enc:α->List AV} {w:Nat}
theorem wZ_ {m n:Nat} (h:m<n):Sx.idx (m:Int) n=some m:=by
 show (match Nat.blt m n with|true=>some m|false=>none)=some m;have hb:Nat.blt m n=true:=by simpa [Nat.blt_eq]using h
 rw [hb]
theorem qi_ {sz off es ln n m:Nat} {k k':IntKind} (h:m<ln):(XOp.flat sz off es ln).run P [.int k (n:Int),.int k' (m:Int)]=some (.int .i64 ((n*sz+off+m*es:Nat):Int)):=by show (match Sx.idx (m:Int) ln with|some m=>some (AV.int .i64 (.ofNat (Nat.add (Nat.add (Nat.mul n sz) off) (Nat.mul m es))))|none=>none)=_;rw [wZ_ h];rfl
theorem qP_ {l:List α} {i:Nat} (hi:i<l.length) (k:IntKind):(XOp.inb).run P [pn_ enc w l,.int k (i:Int)]=some (.int .i64 (i:Int)):=by show (match Sx.idx (i:Int) l.length with|some n=>some (AV.int .i64 (.ofNat n))|none=>none)=_;rw [wZ_ hi];rfl
theorem uP_ {d:TypeDesc} (ht:P.underlying t=some d) (ha:lC_ d=false) (hw:∀a,(enc a).length=w) {l:List α} {i off:Nat} (hi:i<l.length) {v:AV} (he:(enc l[i])[off]? =some v) {q:Nat} (hq:q=i*w+off) (k:IntKind):(XOp.ldx t 1 0).run P [pn_ enc w l,.int k (q:Int)]=some v:=by
 obtain ⟨a,b,e1,e2,_⟩:=we_ hw l hi;subst hq;show bi_ P (ry_ (bA_ enc l)) t (.ptr 0 ((i*w+off)*1+0))=_;unfold bi_;simp only [ht,ha];have hg:(ry_ (bA_ enc l)).get 0=some (.cells (bA_ enc l)):=rfl;unfold aT_;simp only [hg];obtain ⟨ho,hv⟩:=List.getElem?_eq_some_iff.1 he;have hd:ah_ ((i*w+off)*1+0) (bA_ enc l)=v::((enc l[i]).drop (off+1)++b):=by rw [aB_,e1,Nat.mul_one,Nat.add_zero,←e2,List.drop_append,List.drop_eq_nil_of_le (by omega),List.nil_append,Nat.add_sub_cancel_left,List.drop_append_of_le_length (by omega),List.drop_eq_getElem_cons ho,hv];rfl
 rw [hd];rfl
theorem yn_ (hw:∀a,(enc a).length=w) {l:List α} {i off:Nat} (hi:i<l.length) {b:Bool} {y:α} (hinf:P.info? t=some ti) (hs:ti.size=1) (hoff:off<w) (hy:enc y=(enc l[i]).set off (.bool b)) {q:Nat} (hq:q=i*w+off) (k:IntKind):
  (XOp.stx t 1 0).run P [pn_ enc w l,.int k (q:Int),.bool b]=some (pn_ enc w (l.set i y)):=by
 obtain ⟨a,r,e1,e2,e3⟩:=we_ hw l hi;subst hq;have hl:=hw l[i];have hst:ca_ P (ry_ (bA_ enc l)) t (.ptr 0 ((i*w+off)*1+0)) (.bool b)=some (.tup [],(ry_ (bA_ enc l)).set 0 (.cells (bA_ enc (l.set i y)))):=by have hg:(ry_ (bA_ enc l)).get 0=some (.cells (bA_ enc l)):=rfl;have hsa:c9_ ((i*w+off)*1+0) [.bool b] (bA_ enc l)=some (bA_ enc (l.set i y)):=(by obtain ⟨p,c,s,hps,hpl⟩:∃p c s,enc l[i]=p++c::s/\p.length=off:=⟨(enc l[i]).take off,(enc l[i])[off]'(by omega),(enc l[i]).drop (off+1),by rw [List.getElem_cons_drop,List.take_append_drop],by rw [List.length_take];omega⟩;have h1:=sQ_ (a++p) [.bool b] [c] (s++r) rfl;rw [List.length_append,e2,hpl]at h1;have hy2:enc y=p++ .bool b::s:=(by rw [hy,hps,←hpl];simp);rw [Nat.mul_one,Nat.add_zero,e1,e3,hy2,hps];have e4:a++(p++c::s++r)=a++p++([c]++(s++r)):=(by simp only [List.append_assoc,List.cons_append,List.nil_append]);rw [e4,h1];simp only [List.append_assoc,List.cons_append,List.nil_append]);have hb:Nat.beq [AV.bool b].length ti.size=true:=(by rw [hs];rfl);have h1:ba_ [AV.bool b]=true:=rfl;have hc:(AV.bool b).cells=[.bool b]:=rfl;simp only [ca_,hinf];simp only [hc,hb,h1,hg,hsa]
 show (match ca_ P (ry_ (bA_ enc l)) t (.ptr 0 (Nat.add (Nat.mul (i*w+off) 1) 0)) (.bool b)with
  |some r=>match r.2.get 0 with
   |some (.cells cs')=>some (AV.vsl l.length w cs')
   |_=>none
  |none=>none)=_
 have e6:Nat.add (Nat.mul (i*w+off) 1) 0=(i*w+off)*1+0:=rfl;rw [e6,hst];have hg2:∀c:List AV,((ry_ (bA_ enc l)).set 0 (.cells c)).get 0=some (.cells c):=λc=>rfl;simp only [hg2];show _=some (AV.vsl (l.set i y).length w _);rw [List.length_set]
theorem xZ_ (hw:∀a,(enc a).length=w) (x:α) (l:List α) {k:IntKind}:XOp.skx.run P [pn_ enc w (x::l),.int k 1]=some (pn_ enc w l):=by
 show (match Nat.ble 1 (l.length+1)with|true=>some (AV.vsl (Nat.sub (l.length+1) 1) w (ah_ (Nat.mul 1 w) (bA_ enc (x::l))))|false=>none)=_;have hb:Nat.ble 1 (l.length+1)=true:=Nat.ble_eq_true_of_le (by omega);have hd:ah_ (Nat.mul 1 w) (bA_ enc (x::l))=bA_ enc l:=by have e:Nat.mul 1 w=(enc x).length:=(by rw [hw];exact Nat.one_mul w);rw [aB_,e];show (enc x++bA_ enc l).drop _=_;rw [List.drop_left]
 rw [hb,hd];rfl
theorem yl_ {sz bytes:Nat} {zs:List AV} {x:α} (hx:enc x=zs) {n:Nat} (h1:bytes*n<=16777216) (h2:n<=16777216) {k:IntKind}:(XOp.mkx sz bytes zs).run P [.int k (n:Int)]=some (pn_ enc sz (List.replicate n x)):=by
 have b1:(Nat.ble (Nat.mul bytes n) 16777216&&Nat.ble n 16777216)=true:=by have q1:Nat.ble (Nat.mul bytes n) 16777216=true:=Nat.ble_eq_true_of_le h1;have q2:Nat.ble n 16777216=true:=Nat.ble_eq_true_of_le h2;rw [q1,q2];rfl
 show (match Nat.ble (Nat.mul bytes n) 16777216&&Nat.ble n 16777216 with|true=>some (AV.vsl n sz (ax_ zs n))|false=>none)=_;rw [b1];have:∀n:Nat,ax_ zs n=bA_ enc (List.replicate n x):=by
  intro n
  induction n with
  |zero=>rfl
  |succ n ih=>rw [List.replicate_succ];show zs++ax_ zs n=enc x++bA_ enc (List.replicate n x);rw [ih,hx]
 show some (AV.vsl n sz _)=some (AV.vsl (List.replicate n x).length sz _);rw [List.length_replicate,this]
end
end Go.Sx
set_option linter.unusedVariables false
namespace Go.Proofs.YtelnbodnjmldeaaGreat.vars
open Go Go.Sx
def hs:Nat->Nat->List AV
 |_,0=>[]
 |j,n+1=>.slx j 0 0::hs (j+1) n
def pk (a b:AV):Nat×List AV:=(0,[a,b])
def ft46:FT:=⟨1,⟨[(0,.ptr 0 0),(1,.slx 2 0 0)],[pk (.slx 0 0 0) (.slx 1 0 0)],1,3,[],[],[]⟩,[(false,⟨[(0,.slx 0 0 0)],[pk (.sym 64) (.slx 1 0 0)],1,2,[],[],[]⟩)]⟩
def ftX:FT:=⟨1,⟨[(0,.ptr 0 0),(1,.slx 2 0 0),(2,.slx 3 0 0)],[pk (.slx 0 0 0) (.slx 1 0 0)],1,4,[],[],[]⟩,[(false,⟨[(0,.agg (hs 0 10))],[pk (.sym 64) (.slx 10 0 0)],1,11,[],[],[]⟩)]⟩
def k_:FT:=ftX
def tT_:FT:=ftX
def ft98:FT:=⟨1,⟨[(0,.ptr 0 0),(1,.slx 2 0 0)],[pk (.slx 0 0 0) (.slx 1 0 0)],1,3,[],[],[]⟩,[(false,⟨[(0,.agg (hs 0 27))],[pk (.sym 64) (.slx 27 0 0)],1,28,[],[],[]⟩)]⟩
def ft55:FT:=⟨1,⟨[(0,.ptr 0 0),(1,.slx 2 0 0),(2,.slx 3 0 0)],[pk (.slx 0 0 0) (.slx 1 0 0)],1,4,[],[],[]⟩,[(false,⟨[(0,.slx 1 27 0)],[pk (.sym 64) (.slx 1 0 0)],2,2,[⟨1,27,0,0,none⟩],[],[]⟩)]⟩
def ft24:FT:=⟨1,⟨[(0,.ptr 0 0)],[pk (.slx 0 0 0) (.slx 1 0 0)],1,2,[],[],[]⟩,[(false,⟨[(0,.agg (hs 0 2))],[pk (.sym 64) (.slx 2 0 0)],1,3,[],[],[]⟩)]⟩
def ft17:FT:=⟨0,⟨[(0,.slx 0 0 0)],[],0,1,[],[],[]⟩,[(false,⟨[(0,.ptr 0 0)],[pk (.sym 64) (.int .i64 0)],1,0,[],[],[]⟩)]⟩
def ft149:FT:=⟨0,⟨[(0,.slx 0 0 0),(1,.agg (hs 1 10))],[],0,11,[],[],[]⟩,[(false,⟨[(0,.tup [.agg (hs 0 10),.slx 10 0 0])],[],0,11,[],[],[]⟩)]⟩
def xB_:FT:=ft149
def ft185:FT:=⟨0,⟨[(0,.slx 0 0 0),(1,.agg (hs 1 10)),(2,.slx 11 0 0)],[],0,12,[],[],[]⟩,[(false,⟨[(0,.tup [.agg (hs 0 10),.slx 10 0 0])],[],0,11,[],[],[]⟩)]⟩
def ft97:FT:=⟨0,⟨[(0,.slx 0 0 0),(1,.agg (hs 1 27))],[],0,28,[],[],[]⟩,[(false,⟨[(0,.tup [.agg (hs 0 27),.slx 27 0 0])],[],0,28,[],[],[]⟩)]⟩
def xz_:FT:=ft97
def xA_:FT:=ft97
def ft54:FT:=⟨0,⟨[(0,.slx 0 0 0),(1,.slx 1 0 0)],[],0,2,[],[],[]⟩,[(false,⟨[(0,.tup [.slx 0 0 0,.slx 1 0 0])],[],0,2,[],[],[]⟩)]⟩
def ft23:FT:=⟨0,⟨[(0,.agg (hs 0 2))],[],0,2,[],[],[]⟩,[(false,⟨[(0,.tup [.agg (hs 0 2),.slx 2 0 0])],[],0,3,[],[],[]⟩)]⟩
def ft8:FT:=⟨0,⟨[(0,.slx 0 0 0)],[],0,1,[],[],[]⟩,[(false,⟨[(0,.tup [.agg (hs 0 2),.slx 2 0 0])],[],0,3,[],[],[]⟩)]⟩
def ft25:FT:=⟨0,⟨[(0,.slx 0 7 0),(1,.slx 1 0 0)],[],1,2,[⟨0,7,0,0,none⟩],[],[]⟩,[(false,⟨[(0,.slx 0 7 0)],[],1,1,[⟨0,7,0,0,none⟩],[],[]⟩)]⟩
def ft56:FT:=⟨0,⟨[(0,.slx 0 7 0),(1,.agg (hs 1 27))],[],1,28,[⟨0,7,0,0,none⟩],[],[]⟩,[(false,⟨[(0,.slx 0 7 0)],[],1,1,[⟨0,7,0,0,none⟩],[],[]⟩)]⟩
def sy (n m:Nat):List AV:=aj_ n m
end Go.Proofs.YtelnbodnjmldeaaGreat.vars
set_option maxRecDepth 100000
set_option linter.unusedVariables false
set_option linter.unusedSimpArgs false
namespace Go.Proofs.YtelnbodnjmldeaaGreat.vars
open Go Go.Sx
instance gI:Gl:=glT gl0 nr0 []
theorem mo:Tryz.prog.follows .mixedOrders=true:=by kernel_rfl
theorem ov:lA_ Tryz.prog:=vA_ gl0 nr0 _
inductive GX where
 |mk (op kd:Int) (nm fd:List UInt8) (ad n vk vi:Int) (vf:Nat) (args:List GX)
mutual
def q_:GX->List AV
 | .mk op kd nm fd ad n vk vi vf args=>[.int .i64 op,.int .i64 kd,.str nm,.str fd,.int .i64 ad,.int .i64 n,.int .i64 vk,.int .i64 vi,.flt .f64 vf,K_ args]
def K_:List GX->AV
 |[]=>.nsl
 |a::r=>.vsl (r.length+1) 10 (q_ a++nb_ r)
def nb_:List GX->List AV
 |[]=>[]
 |a::r=>q_ a++nb_ r
end
theorem wq_:∀l:List GX,nb_ l=bA_ q_ l
 |[]=>rfl
 |a::r=>by simp only [nb_,bA_,wq_ r]
theorem rk_ (l:List GX):K_ l=a3_ q_ 10 l:=by
 cases l with
 |nil=>rfl
 |cons a r=>simp only [K_,a3_,bA_,wq_]
theorem nF_ (x:GX):(q_ x).length=10:=by cases x;simp [q_]
mutual
theorem okX:∀x:GX,okL (q_ x)=true
 | .mk op kd nm fd ad n vk vi vf args=>by simp only [q_,okL,okC,okA args]
theorem okA:∀l:List GX,okC (K_ l)=true
 |[]=>rfl
 |a::r=>by simp only [K_,okC];exact kP_.okL_join (okX a) (wC_ r)
theorem wC_:∀l:List GX,okL (nb_ l)=true
 |[]=>rfl
 |a::r=>by simp only [nb_];exact kP_.okL_join (okX a) (wC_ r)
end
inductive GS where
 |mk (op:Int) (to e:GX) (thn els:List GS) (nm:List UInt8) (kd ad:Int) (args:List GX)
mutual
def Y_:GS->List AV
 | .mk op to e thn els nm kd ad args=>.int .i64 op::(q_ to++(q_ e++[H_ thn,H_ els,.str nm,.int .i64 kd,.int .i64 ad,K_ args]))
def H_:List GS->AV
 |[]=>.nsl
 |a::r=>.vsl (r.length+1) 27 (Y_ a++v4_ r)
def v4_:List GS->List AV
 |[]=>[]
 |a::r=>Y_ a++v4_ r
end
theorem wp_:∀l:List GS,v4_ l=bA_ Y_ l
 |[]=>rfl
 |a::r=>by simp only [v4_,bA_,wp_ r]
theorem vC_ (l:List GS):H_ l=a3_ Y_ 27 l:=by
 cases l with
 |nil=>rfl
 |cons a r=>simp only [H_,a3_,bA_,wp_]
theorem y7_ (x:GS):(Y_ x).length=27:=by cases x;simp [Y_,nF_]
mutual
theorem okS:∀x:GS,okL (Y_ x)=true
 | .mk op to e thn els nm kd ad args=>by simp only [Y_];refine kP_.okL_join (a:=[_]) rfl (kP_.okL_join (okX to) (kP_.okL_join (okX e) ?_));simp only [okL,okC,okA args,okB thn,okB els]
theorem okB:∀l:List GS,okC (H_ l)=true
 |[]=>rfl
 |a::r=>by simp only [H_,okC];exact kP_.okL_join (okS a) (zK_ r)
theorem zK_:∀l:List GS,okL (v4_ l)=true
 |[]=>rfl
 |a::r=>by simp only [v4_];exact kP_.okL_join (okS a) (zK_ r)
end
def Ari (op:Int) (n:Nat):Prop:=(op=1\/op=2)/\n=0\/(op=3\/op=15\/op=16\/op=17)/\n=1\/(4<=op/\op<=14)/\n=2
def xr_ (f:Nat):Prop:=f=0\/f=4609434218613702656\/f=4611686018427387904\/f=4598175219545276416
def GX.op:GX->Int| .mk op .. =>op
def GX.kd:GX->Int| .mk _ kd .. =>kd
def vL_:List (List UInt8×List UInt8):=[([98],[]),([113],[]),([116,109],[113]),([97],[]),([120],[]),([111],[]),([99],[99,118]),([121],[]),([116,109],[101,116]),([119],[]),([122],[])]
def X_ (vk vi:Int) (vf:Nat):Prop:=(vk=1\/vk=3\/vk=4\/vk=5)/\0<=vi/\vi<50/\(vk=1->vi<=1)/\(vk=5->vi=0)/\(vk≠5->vf=0)
def Nod (op kd:Int) (nm fd:List UInt8) (vk vi:Int) (vf:Nat):Prop:=(op=1->X_ vk vi vf)/\(op=2->(nm,fd)∈vL_)/\(op=3->nm=[107])/\(op=17->2<=kd/\kd<=5)
def WX:Nat->GX->Prop
 |0,_=>False
 |d+1,.mk op kd nm fd _ _ vk vi vf args=>Ari op args.length/\xr_ vf/\Nod op kd nm fd vk vi vf/\∀a∈args,WX d a
theorem d_:∀{d e:Nat} {x:GX},d<=e->WX d x->WX e x
 |0,_,_,_,h=>h.elim
 |d+1,0,_,h,_=>by omega
 |d+1,e+1,.mk ..,h,⟨h1,h2,h3,h4⟩=>⟨h1,h2,h3,λa ha=>d_ (by omega) (h4 a ha)⟩
def WS:Nat->GS->Prop
 |0,_=>False
 |d+1,.mk op to e thn els nm kd ad args=>
  (op=1/\WX 5 to/\(to.op=2\/to.op=3)/\WX 6 e/\thn=[]/\els=[])\/
  ((op=2\/op=3)/\WX 5 e/\thn.length<=5/\els.length<=5/\(∀s∈thn,WS d s)/\∀s∈els,WS d s)\/
  (op=4/\(nm=[116,109]\/nm=[99]\/nm=[101])/\args.length<=2/\(∀a∈args,WX 5 a)/\thn=[]/\els=[])
def vy_ (c:UInt8):List AV:=[.int .u8 (c.toNat:Int)]
theorem A8_ (c:UInt8):(vy_ c).length=1:=rfl
theorem wA_ (c:UInt8):okL (vy_ c)=true:=rfl
def Pk (l:List UInt8) (a:AV):Prop:=SlV vy_ 1 l a/\l.length<=9223372036854775807
section
variable {l:List UInt8} {a:AV}
theorem yH_ (h:Pk l a):(XOp.len 22).run Tryz.prog [a]=some (.int .i64 (l.length:Int)):=h.1.len Tryz.underlying22
theorem A5_ (h:Pk l a) {i:Nat} (hi:i<l.length) {k:IntKind}:(XOp.iaddr 22).run Tryz.prog [a,.int k (i:Int)]=some (.vptr (bA_ vy_ (l.drop i))):=h.1.ia (e:=5) Tryz.underlying22 (ti:=(Tryz.prog.info? 5).get!) (by kernel_rfl) (by kernel_rfl) A8_ hi k
theorem ld5 {i:Nat} (hi:i<l.length):(XOp.load 5).run Tryz.prog [.vptr (bA_ vy_ (l.drop i))]=some (.int .u8 (l[i].toNat:Int)):=by rw [List.drop_eq_getElem_cons hi];exact sS_ Tryz.underlying5 rfl _ _
end
theorem zp_ (n:Nat) (h:n<256):(XOp.conv 5 3).run Tryz.prog [.int .u8 (n:Int)]=some (.int .i64 (n:Int)):=by rw [tz_ Tryz.underlying5 Tryz.underlying3,vE_ (by omega) (by omega)]
theorem ym_ (x m:Nat) (h:0<m) (h2:m<9223372036854775808) (t:TypeId) (cx cy:Bool):(XOp.bin .rem t cx cy).run Tryz.prog [.int .i64 (x:Int),.int .i64 (m:Int)]=some (.int .i64 ((x%m:Nat):Int)):=by
 have:(x:Int).tmod (m:Int)=((x%m:Nat):Int):=by rw [Int.tmod_eq_emod_of_nonneg (by omega)];rfl
 show bC_ Tryz.prog .rem t cx cy (.int .i64 (x:Int)) (.int .i64 (m:Int))=_;exact sR_ (by omega) this t cx cy
theorem p_ {x y:Int} {t:TypeId} {cx cy:Bool} (h1: -9223372036854775807<=x+y) (h2:x+y<=9223372036854775807):(XOp.bin .add t cx cy).run Tryz.prog [.int .i64 x,.int .i64 y]=some (.int .i64 (x+y)):=by rw [run_add,vE_ (by omega) (by omega)]
theorem G_ {x y z:Int} {t:TypeId} {cx cy:Bool} (h:x-y=z) (h1: -9223372036854775807<=z) (h2:z<=9223372036854775807):(XOp.bin .sub t cx cy).run Tryz.prog [.int .i64 x,.int .i64 y]=some (.int .i64 z):=by rw [run_sub,h,vE_ (by omega) (by omega)]
def RN (l:List UInt8) (m:Nat):Nat->List AV->Prop:=λ_ ws=>∃v n:Nat,ws=[.int .i64 (v:Int),.int .i64 (n:Int)]/\v<m/\n<=l.length
def c46:VC:=⟨⟨[],[]⟩,[],[],1,true,[]⟩
def t46:VT:=Li Z5 [64] 67<|It Z7 [65,67] 68 (Dn [J 0,65])<|Li Q3 [65,J 1] 69<|Li Qj [69,J 1] 70<|Li (.iaddr 22) [64,70] 71<|Li (.load 5) [71] 72<|Li Zi [72] 73<|Li (.bin .rem 3 false false) [73,66] 74<|Dn [74,69]
theorem p46 {l:List UInt8} {a:AV} {n m:Nat} (h:Pk l a) (hn:n<=l.length) (hm:0<m) (hm2:m<=1000):CF Tryz.prog 46 ft46 [a,.int .i64 (n:Int),.int .i64 (m:Int)] (RN l m):=by
 have hb:=h.2;refine va_ (c:=c46) (n:=300) (t:=t46) mo ov rfl (λY _=>vu_ _) (by kernel_rfl) λY hf hg=>?_;unfold t46;refine VOK_lt (yH_ h) rfl (VOK_lt (run_geq ..) rfl (u8_ rfl (λh1=>VOK_fin rfl ⟨0,n,rfl,hm,hn⟩) (λh1=>?_)));have h1:n<l.length:=by simpa using h1
 refine VOK_lt (p_ (by omega) (by omega)) rfl (VOK_lt (G_ (z:=n) (by omega) (by omega) (by omega)) rfl (VOK_lt (A5_ h h1) (kP_ wA_ _) (VOK_lt (ld5 h1) rfl (VOK_lt (zp_ _ (UInt8.toNat_lt _)) rfl (VOK_lt (ym_ _ _ hm (by omega) ..) rfl (VOK_fin rfl ⟨l[n].toNat%m,n+1,rfl,Nat.mod_lt _ hm,h1⟩))))))
end Go.Proofs.YtelnbodnjmldeaaGreat.vars
set_option maxRecDepth 100000
set_option linter.unusedVariables false
set_option linter.unusedSimpArgs false
namespace Go.Proofs.YtelnbodnjmldeaaGreat.vars
open Go Go.Sx
def RI (l:List UInt8) (m:Int):Nat->List AV->Prop:=λ_ ws=>∃v n:Nat,ws=[.int .i64 (v:Int),.int .i64 (n:Int)]/\(v:Int)<m/\n<=l.length
theorem ya_ {f:FuncId} {ft:FT} {vs:List AV} {R R':Nat->List AV->Prop} (h:CF Tryz.prog f ft vs R) (hr:∀j ws,R j ws->R' j ws):CF Tryz.prog f ft vs R':=
 ⟨h.1,λY hf B pr E w us h1 h2 h3 h4=>(h.2 Y hf B pr E w us h1 h2 h3 h4).mono λe w' ⟨Y',r,⟨j,ws,b,tp,q1,q2,q3⟩,hp⟩=>⟨Y',r,⟨j,ws,b,tp,q1,hr _ _ q2,q3⟩,hp⟩⟩
theorem T_ {l:List UInt8} {a:AV} {n:Nat} {m:Int} (h:Pk l a) (hn:n<=l.length) (hm:0<m) (hm2:m<=1000):CF Tryz.prog 46 ft46 [a,.int .i64 (n:Int),.int .i64 m] (RI l m):=by
 have e:m=((m.toNat:Nat):Int):=by omega
 have:=p46 h hn (m:=m.toNat) (by omega) (by omega);rw [←e]at this;exact ya_ this λj ws ⟨v,n,h1,h2,h3⟩=>⟨v,n,h1,by omega,h3⟩
def RX (l:List UInt8) (d:Nat):Nat->List AV->Prop:=λ_ ws=>∃(x:GX) (n:Nat),ws=q_ x++[.int .i64 (n:Int)]/\WX (d+1) x/\n<=l.length
def PX (l:List UInt8) (a:AV) (f:FuncId) (d:Nat):Prop:=∀(n:Nat) (k:Int),n<=l.length->1<=k/\k<=5->CF Tryz.prog f ftX [a,.int .i64 (n:Int),.int .i64 k,.int .i64 (d:Int)] (RX l d)
theorem L_ {d:Nat} {kd ad n vk vi:Int} {nm fd:List UInt8} {vf:Nat} (ho:X_ vk vi vf) (hf:xr_ vf):WX (d+1) (.mk 1 kd nm fd ad n vk vi vf []):=⟨.inl ⟨.inl rfl,rfl⟩,hf,⟨λ_=>ho,λh=>by omega,λh=>by omega,λh=>by omega⟩,λa ha=>(List.not_mem_nil ha).elim⟩
theorem v_ {d:Nat} {kd ad n vk vi:Int} {nm fd:List UInt8} (ho:(nm,fd)∈vL_):WX (d+1) (.mk 2 kd nm fd ad n vk vi 0 []):=⟨.inl ⟨.inr rfl,rfl⟩,.inl rfl,⟨λh=>by omega,λ_=>ho,λh=>by omega,λh=>by omega⟩,λa ha=>(List.not_mem_nil ha).elim⟩
theorem wa_ {d:Nat} {op kd ad n vk vi:Int} {nm fd:List UInt8} {x:GX} (ho:op=3/\nm=[107]\/op=15\/op=16\/op=17/\2<=kd/\kd<=5) (h:WX d x):WX (d+1) (.mk op kd nm fd ad n vk vi 0 [x]):=by refine ⟨.inr (.inl ⟨by omega,rfl⟩),.inl rfl,⟨λh=>by omega,λh=>by omega,λh=>?_,λh=>by omega⟩,λa ha=>by cases List.mem_singleton.1 ha;exact h⟩;rcases ho with ho|ho|ho|ho;exact ho.2;all_goals omega
theorem wb_ {d:Nat} {op kd ad n vk vi:Int} {nm fd:List UInt8} {x y:GX} (ho:4<=op/\op<=14) (h:WX d x) (h2:WX d y):WX (d+1) (.mk op kd nm fd ad n vk vi 0 [x,y]):=
 ⟨.inr (.inr ⟨ho,rfl⟩),.inl rfl,⟨λh=>by omega,λh=>by omega,λh=>by omega,λh=>by omega⟩,λa ha=>by rcases List.mem_cons.1 ha with rfl|ha;exact h;cases List.mem_singleton.1 ha;exact h2⟩
theorem a_ {P:Program} {Q:AV->Prop} {L:List (Nat->List AV->Prop)} {Y:Sy} {f:FuncId} {ft:FT} {hv vs:List AV} {n:Nat} {bs:VTs} {R:Nat->List AV->Prop} (h1:CF P f ft vs R) (h0:ab_ Y.v hv=vs) (h2:okL vs=true) (h3:sb_ P Q R L (Y.puts n vs) (Nat.add n ft.ent.nv) 0 bs):VOK P Q L Y (.callF f ft hv n bs):=by subst h0;exact um_ h1 h2 h3
theorem okP {a:AV} (h:okC a=true) {n m:Int}:okL [a,.int .i64 n,.int .i64 m]=true:=by simp only [okL,okC,h]
theorem S_ {a:AV} (h:okC a=true) {n m k:Int}:okL [a,.int .i64 n,.int .i64 m,.int .i64 k]=true:=by simp only [okL,okC,h]
theorem qg_ (x:GX) (n:Int):okL (q_ x++[.int .i64 n])=true:=kP_.okL_join (okX x) rfl
theorem A_ {l:List UInt8} {d n j:Nat} {x:GX} {hv:List AV} {Y:Sy} {L:List (Nat->List AV->Prop)} (h:ab_ Y.v hv=q_ x++[.int .i64 (n:Int)]) (hw:WX (d+1) x) (hn:n<=l.length):VOK Tryz.prog (QF (RX l d)) L Y (.done (.tup (.int .i64 (.ofNat j)::hv))):=
 VOK_fin (by rw [h];exact qg_ x n) ⟨x,n,h,hw,hn⟩
section
variable {P:Program} {Q:AV->Prop} {L:List (Nat->List AV->Prop)} {Y:Sy} {t:TypeId} {cx cy:Bool} {args:List AV} {n:Nat} {A B:VT} {k:IntKind} {a b:Int}
def o_:BinOp->Int->Int->Bool
 | .eql,a,b=>decide (a=b)
 | .neq,a,b=> !decide (a=b)
 | .lss,a,b=>decide (a<b)
 | .gtr,a,b=>decide (b<a)
 | .leq,a,b=>decide (a<=b)
 |_,_,_=>false
theorem r_ {op:BinOp} (h0:ab_ Y.v args=[.int k a,.int k b]) (ho:(match op with| .eql=>true| .neq=>true| .lss=>true| .gtr=>true| .leq=>true|_=>false)=true)
  (h1:o_ op a b=true->VOK P Q L (Y.put n (.bool (o_ op a b))) A) (h2:o_ op a b=false->VOK P Q L (Y.put n (.bool (o_ op a b))) B):VOK P Q L Y (.lt (.bin op t cx cy) args n none (.ite n A B)):=by
 have hr:(XOp.bin op t cx cy).run P [.int k a,.int k b]=some (.bool (o_ op a b)):=by
  cases op<;>simp only at ho<;>first|(cases ho;done)|skip
  exact run_eql ..;exact run_neq ..;exact run_lss ..;exact run_leq ..;exact run_gtr ..
 exact VOK_lt (by rw [h0];exact hr) rfl (u8_ (t:=o_ op a b) (by rw [vK_,if_pos rfl]) h1 h2)
end
def AU_:VC:=⟨⟨[],[]⟩,[],[],1,true,[(46,ft46),(150,k_)]⟩
def Af_:VT:=Cf 46 ft46 [64,65,J 4] 68 2<|Iq 66 1 73 (Cf 46 ft46 [64,72,J 2] 74 2<|Li Qg [.vsl 4 10 [J 2,J 0,.str [98],.str [],J 0,J 0,J 0,J 0,.flt .f64 0,.nsl,J 2,J 0,.str [113],.str [],J 0,J 0,J 0,J 0,.flt .f64 0,.nsl,J 2,J 0,.str [116,109],.str [113],J 0,J 0,J 0,J 0,.flt .f64 0,.nsl,J 1,J 0,.str [],.str [],J 0,J 0,J 1,77,.flt .f64 0,.nsl],71] 79<|.lt Qm [79] 80 (some 10)<|Dn [80,81,82,83,84,85,86,87,88,89,78])<|Iq 66 2 74 (Iq 71 0 75 (It Qb [67,J 1] 76 (Li Qj [67,J 1] 77<|Cf 150 k_ [64,72,J 2,77] 78 11<|Dn [J 3,J 0,.str [107],.str [],J 0,J 0,J 0,J 0,.flt .f64 0,.vsl 1 10 [82,83,84,85,86,87,88,89,90,91],92])<|It Qa [71,J 2] 77 (Cf 46 ft46 [64,72,J 7] 78 2<|Dn [J 17,J 2,.str [],.str [],J 0,J 0,J 0,J 0,.flt .f64 0,.vsl 1 10 [J 1,J 0,.str [],.str [],J 0,J 0,J 3,81,.flt .f64 0,.nsl],82])<|Cf 46 ft46 [64,72,J 4] 78 2<|Li Qg [.vsl 4 10 [J 2,J 0,.str [97],.str [],J 0,J 0,J 0,J 0,.flt .f64 0,.nsl,J 2,J 0,.str [120],.str [],J 0,J 0,J 0,J 0,.flt .f64 0,.nsl,J 2,J 0,.str [111],.str [],J 0,J 0,J 0,J 0,.flt .f64 0,.nsl,J 2,J 0,.str [99],.str [99,118],J 0,J 0,J 0,J 0,.flt .f64 0,.nsl],81] 83<|.lt Qm [83] 84 (some 10)<|Dn [84,85,86,87,88,89,90,91,92,93,82])<|It Qa [71,J 2] 76 (Cf 46 ft46 [64,72,J 7] 77 2<|Dn [J 17,J 2,.str [],.str [],J 0,J 0,J 0,J 0,.flt .f64 0,.vsl 1 10 [J 1,J 0,.str [],.str [],J 0,J 0,J 3,80,.flt .f64 0,.nsl],81])<|Cf 46 ft46 [64,72,J 4] 77 2<|Li Qg [.vsl 4 10 [J 2,J 0,.str [97],.str [],J 0,J 0,J 0,J 0,.flt .f64 0,.nsl,J 2,J 0,.str [120],.str [],J 0,J 0,J 0,J 0,.flt .f64 0,.nsl,J 2,J 0,.str [111],.str [],J 0,J 0,J 0,J 0,.flt .f64 0,.nsl,J 2,J 0,.str [99],.str [99,118],J 0,J 0,J 0,J 0,.flt .f64 0,.nsl],80] 82<|.lt Qm [82] 83 (some 10)<|Dn [83,84,85,86,87,88,89,90,91,92,81])<|Iq 66 3 75 (It Qa [71,J 2] 76 (Cf 46 ft46 [64,72,J 9] 77 2<|Dn [J 1,J 0,.str [],.str [],J 0,J 0,J 3,80,.flt .f64 0,.nsl,81])<|Dn [J 2,J 0,.str [121],.str [],J 0,J 0,J 0,J 0,.flt .f64 0,.nsl,72])<|Iq 66 4 76 (Iq 71 0 77 (Dn [J 2,J 0,.str [116,109],.str [101,116],J 0,J 0,J 0,J 0,.flt .f64 0,.nsl,72])<|Iq 71 1 78 (Cf 46 ft46 [64,72,J 50] 79 2<|Dn [J 1,J 0,.str [],.str [],J 0,J 0,J 4,82,.flt .f64 0,.nsl,83])<|Dn [J 2,J 0,.str [119],.str [],J 0,J 0,J 0,J 0,.flt .f64 0,.nsl,72])<|It Qa [71,J 2] 77 (Cf 46 ft46 [64,72,J 4] 78 2<|Li (.iaddr 199) [.vsl 4 1 [.flt .f64 0,.flt .f64 4609434218613702656,.flt .f64 4611686018427387904,.flt .f64 4598175219545276416],81] 83<|Li (.load 60) [83] 84<|Dn [J 1,J 0,.str [],.str [],J 0,J 0,J 5,J 0,84,.nsl,82])<|Dn [J 2,J 0,.str [122],.str [],J 0,J 0,J 0,J 0,.flt .f64 0,.nsl,72]
def AS_:VC:=⟨⟨[],[]⟩,[],[],1,true,[(46,ft46),(150,k_),(152,tT_)]⟩
def Ad_:VT:=It Q8 [67,J 1] 68 (Cf 152 tT_ [64,65,66,67] 69 11<|Dn [73,74,75,76,77,78,79,80,81,82,83])<|Cf 46 ft46 [64,65,J 4] 69 2<|Iq 72 0 74 (Cf 152 tT_ [64,73,66,67] 75 11<|Dn [79,80,81,82,83,84,85,86,87,88,89])<|Iq 66 1 75 (Cf 46 ft46 [64,73,J 5] 76 2<|Iq 79 0 81 (Li Qj [67,J 1] 82<|Cf 150 k_ [64,80,J 1,82] 83 11<|Dn [J 15,J 0,.str [],.str [],J 0,J 0,J 0,J 0,.flt .f64 0,.vsl 1 10 [87,88,89,90,91,92,93,94,95,96],97])<|Iq 79 1 82 (Cf 46 ft46 [64,80,J 2] 83 2<|Li Z2 [J 13,86] 88<|Li Qj [67,J 1] 89<|Cf 150 k_ [64,87,J 1,89] 90 11<|Li Qj [67,J 1] 105<|Cf 150 k_ [64,104,J 1,105] 106 11<|Dn [88,J 0,.str [],.str [],J 0,J 0,J 0,J 0,.flt .f64 0,.vsl 2 10 [94,95,96,97,98,99,100,101,102,103,110,111,112,113,114,115,116,117,118,119],120])<|Cf 46 ft46 [64,80,J 4] 83 2<|Li Z2 [J 2,86] 88<|Cf 46 ft46 [64,87,J 4] 89 2<|Li Z2 [J 9,92] 94<|Li Qj [67,J 1] 95<|Cf 150 k_ [64,93,88,95] 96 11<|Li Qj [67,J 1] 111<|Cf 150 k_ [64,110,88,111] 112 11<|Dn [94,J 0,.str [],.str [],J 0,J 0,J 0,J 0,.flt .f64 0,.vsl 2 10 [100,101,102,103,104,105,106,107,108,109,116,117,118,119,120,121,122,123,124,125],126])<|Cf 46 ft46 [64,73,J 9] 76 2<|Iq 79 0 81 (Li Qj [67,J 1] 82<|Cf 150 k_ [64,80,66,82] 83 11<|Dn [J 16,J 0,.str [],.str [],J 0,J 0,J 0,J 0,.flt .f64 0,.vsl 1 10 [87,88,89,90,91,92,93,94,95,96],97])<|Iq 79 1 82 (Cf 46 ft46 [64,80,J 4] 83 2<|Li Z2 [J 2,86] 88<|Li Qj [67,J 1] 89<|Cf 150 k_ [64,87,88,89] 90 11<|Dn [J 17,66,.str [],.str [],J 0,J 0,J 0,J 0,.flt .f64 0,.vsl 1 10 [94,95,96,97,98,99,100,101,102,103],104])<|Iq 79 2 83 (It Q1 [66,J 5] 84 (Li Qj [67,J 1] 85<|Cf 150 k_ [64,80,66,85] 86 11<|Li Qj [67,J 1] 101<|Cf 150 k_ [64,100,66,101] 102 11<|Dn [J 8,J 0,.str [],.str [],J 0,J 0,J 0,J 0,.flt .f64 0,.vsl 2 10 [90,91,92,93,94,95,96,97,98,99,106,107,108,109,110,111,112,113,114,115],116])<|Cf 46 ft46 [64,80,J 4] 85 2<|Li Z2 [J 4,88] 90<|Li Qj [67,J 1] 91<|Cf 150 k_ [64,89,66,91] 92 11<|Li Qj [67,J 1] 107<|Cf 150 k_ [64,106,66,107] 108 11<|Dn [90,J 0,.str [],.str [],J 0,J 0,J 0,J 0,.flt .f64 0,.vsl 2 10 [96,97,98,99,100,101,102,103,104,105,112,113,114,115,116,117,118,119,120,121],122])<|Cf 46 ft46 [64,80,J 4] 84 2<|Li Z2 [J 4,87] 89<|Li Qj [67,J 1] 90<|Cf 150 k_ [64,88,66,90] 91 11<|Li Qj [67,J 1] 106<|Cf 150 k_ [64,105,66,106] 107 11<|Dn [89,J 0,.str [],.str [],J 0,J 0,J 0,J 0,.flt .f64 0,.vsl 2 10 [95,96,97,98,99,100,101,102,103,104,111,112,113,114,115,116,117,118,119,120],121]
theorem zQ_ {l:List UInt8} {a:AV} (hp:Pk l a) (d:Nat) (hd2:d<=100) (hX:1<=d->PX l a 150 d):PX l a 152 (d+1):=by
 intro n k hn hk;have hA:=hp.1.ok wA_;refine va_ (c:=AU_) (n:=300) (t:=Af_) mo ov rfl (λY _=>vu_ _) (by kernel_rfl) λY hf hg=>?_;unfold Af_;have f7:∀v:Nat,(v:Int)<7->WX (d+1+1) (.mk 17 2 [] [] 0 0 0 0 0 [.mk 1 0 [] [] 0 0 3 (v:Int) 0 []]):=λv hv=>wa_ (by decide) (L_ (by unfold X_;omega) (.inl rfl))
 (refine a_ (T_ hp hn (by first|decide|omega) (by first|decide|omega)) rfl (okP hA) ⟨?_,trivial⟩;intro ws hw;rcases hw with ⟨v,n,rfl,hv,hn⟩)
 (refine r_ rfl rfl (λh=>?_) (λh=>?_)<;>rw [o_]at h)
 ·((have e4:v=0\/v=1\/v=2\/v=3:=by omega);rcases e4 with rfl|rfl|rfl|rfl)
  all_goals (refine a_ (T_ hp hn (by first|decide|omega) (by first|decide|omega)) rfl (okP hA) ⟨?_,trivial⟩;intro ws hw;rcases hw with ⟨v,n,rfl,hv,hn⟩);refine VOK_lt rfl rfl (u9_ rfl rfl rfl ?_);(first
                                                                                                                                                                                                               |exact A_ (x:=.mk 2 _ _ _ _ _ _ _ _ []) rfl (v_ (by decide)) hn
                                                                                                                                                                                                               |exact A_ (x:=.mk 1 _ _ _ _ _ _ _ _ []) rfl (L_ (by unfold X_;omega) (by first|exact .inl rfl|exact .inr (.inl rfl)|exact .inr (.inr (.inl rfl))|exact .inr (.inr (.inr rfl)))) hn)
 (refine r_ rfl rfl (λh=>?_) (λh=>?_)<;>rw [o_]at h)
 ·(refine r_ rfl rfl (λh=>?_) (λh=>?_)<;>rw [o_]at h)
  ·(refine r_ rfl rfl (λh=>?_) (λh=>?_)<;>rw [o_]at h)
   .have hd1:1<=d:=(by simp at h;omega);refine VOK_lt (G_ (z:=(d:Int)) (by omega) (by omega) (by omega)) rfl ?_
    (refine a_ ((hX hd1) _ _ hn (by first|decide|(simp only [decide_eq_true_eq,decide_eq_false_iff_not]at *; omega))) rfl (S_ hA) ⟨?_,trivial⟩;intro ws hw;obtain ⟨⟨op,kd,nm,fd,ad,nn,vk,vi,vf,args⟩,n,rfl,hx,hn⟩:=hw)
    (exact A_ (x:=.mk _ _ _ _ _ _ _ _ _ [.mk ..]) rfl (wa_ (by first|decide|(refine .inr (.inr (.inr ⟨rfl,?_,?_⟩))<;>(simp only [decide_eq_true_eq,decide_eq_false_iff_not]at *; omega))) (by assumption)) hn)
   ·(refine r_ rfl rfl (λh=>?_) (λh=>?_)<;>rw [o_]at h)
    ·(refine a_ (T_ hp hn (by first|decide|omega) (by first|decide|omega)) rfl (okP hA) ⟨?_,trivial⟩;intro ws hw;rcases hw with ⟨v,n,rfl,hv,hn⟩)
     exact A_ (x:=.mk _ _ _ _ _ _ _ _ _ [.mk _ _ _ _ _ _ _ _ _ []]) rfl (f7 _ hv) hn
    ·(refine a_ (T_ hp hn (by first|decide|omega) (by first|decide|omega)) rfl (okP hA) ⟨?_,trivial⟩;intro ws hw;rcases hw with ⟨v,n,rfl,hv,hn⟩);((have e4:v=0\/v=1\/v=2\/v=3:=by omega);rcases e4 with rfl|rfl|rfl|rfl)
     all_goals refine VOK_lt rfl rfl (u9_ rfl rfl rfl ?_);(first
                                                                |exact A_ (x:=.mk 2 _ _ _ _ _ _ _ _ []) rfl (v_ (by decide)) hn
                                                                |exact A_ (x:=.mk 1 _ _ _ _ _ _ _ _ []) rfl (L_ (by unfold X_;omega) (by first|exact .inl rfl|exact .inr (.inl rfl)|exact .inr (.inr (.inl rfl))|exact .inr (.inr (.inr rfl)))) hn)
  ·(refine r_ rfl rfl (λh=>?_) (λh=>?_)<;>rw [o_]at h)
   ·(refine a_ (T_ hp hn (by first|decide|omega) (by first|decide|omega)) rfl (okP hA) ⟨?_,trivial⟩;intro ws hw;rcases hw with ⟨v,n,rfl,hv,hn⟩)
    exact A_ (x:=.mk _ _ _ _ _ _ _ _ _ [.mk _ _ _ _ _ _ _ _ _ []]) rfl (f7 _ hv) hn
   ·(refine a_ (T_ hp hn (by first|decide|omega) (by first|decide|omega)) rfl (okP hA) ⟨?_,trivial⟩;intro ws hw;rcases hw with ⟨v,n,rfl,hv,hn⟩);((have e4:v=0\/v=1\/v=2\/v=3:=by omega);rcases e4 with rfl|rfl|rfl|rfl)
    all_goals refine VOK_lt rfl rfl (u9_ rfl rfl rfl ?_);(first
                                                               |exact A_ (x:=.mk 2 _ _ _ _ _ _ _ _ []) rfl (v_ (by decide)) hn
                                                               |exact A_ (x:=.mk 1 _ _ _ _ _ _ _ _ []) rfl (L_ (by unfold X_;omega) (by first|exact .inl rfl|exact .inr (.inl rfl)|exact .inr (.inr (.inl rfl))|exact .inr (.inr (.inr rfl)))) hn)
 (refine r_ rfl rfl (λh=>?_) (λh=>?_)<;>rw [o_]at h)
 ·(refine r_ rfl rfl (λh=>?_) (λh=>?_)<;>rw [o_]at h)
  ·(refine a_ (T_ hp hn (by first|decide|omega) (by first|decide|omega)) rfl (okP hA) ⟨?_,trivial⟩;intro ws hw;rcases hw with ⟨v,n,rfl,hv,hn⟩);(first
                                                                                                                                                       |exact A_ (x:=.mk 2 _ _ _ _ _ _ _ _ []) rfl (v_ (by decide)) hn
                                                                                                                                                       |exact A_ (x:=.mk 1 _ _ _ _ _ _ _ _ []) rfl (L_ (by unfold X_;omega) (by first|exact .inl rfl|exact .inr (.inl rfl)|exact .inr (.inr (.inl rfl))|exact .inr (.inr (.inr rfl)))) hn)
  ·(first
     |exact A_ (x:=.mk 2 _ _ _ _ _ _ _ _ []) rfl (v_ (by decide)) hn
     |exact A_ (x:=.mk 1 _ _ _ _ _ _ _ _ []) rfl (L_ (by unfold X_;omega) (by first|exact .inl rfl|exact .inr (.inl rfl)|exact .inr (.inr (.inl rfl))|exact .inr (.inr (.inr rfl)))) hn)
 (refine r_ rfl rfl (λh=>?_) (λh=>?_)<;>rw [o_]at h)
 ·(refine r_ rfl rfl (λh=>?_) (λh=>?_)<;>rw [o_]at h)
  ·(first
     |exact A_ (x:=.mk 2 _ _ _ _ _ _ _ _ []) rfl (v_ (by decide)) hn
     |exact A_ (x:=.mk 1 _ _ _ _ _ _ _ _ []) rfl (L_ (by unfold X_;omega) (by first|exact .inl rfl|exact .inr (.inl rfl)|exact .inr (.inr (.inl rfl))|exact .inr (.inr (.inr rfl)))) hn)
  ·(refine r_ rfl rfl (λh=>?_) (λh=>?_)<;>rw [o_]at h)
   ·(refine a_ (T_ hp hn (by first|decide|omega) (by first|decide|omega)) rfl (okP hA) ⟨?_,trivial⟩;intro ws hw;rcases hw with ⟨v,n,rfl,hv,hn⟩);(first
                                                                                                                                                        |exact A_ (x:=.mk 2 _ _ _ _ _ _ _ _ []) rfl (v_ (by decide)) hn
                                                                                                                                                        |exact A_ (x:=.mk 1 _ _ _ _ _ _ _ _ []) rfl (L_ (by unfold X_;omega) (by first|exact .inl rfl|exact .inr (.inl rfl)|exact .inr (.inr (.inl rfl))|exact .inr (.inr (.inr rfl)))) hn)
   ·(first
      |exact A_ (x:=.mk 2 _ _ _ _ _ _ _ _ []) rfl (v_ (by decide)) hn
      |exact A_ (x:=.mk 1 _ _ _ _ _ _ _ _ []) rfl (L_ (by unfold X_;omega) (by first|exact .inl rfl|exact .inr (.inl rfl)|exact .inr (.inr (.inl rfl))|exact .inr (.inr (.inr rfl)))) hn)
 (refine r_ rfl rfl (λh=>?_) (λh=>?_)<;>rw [o_]at h)
 ·(refine a_ (T_ hp hn (by first|decide|omega) (by first|decide|omega)) rfl (okP hA) ⟨?_,trivial⟩;intro ws hw;rcases hw with ⟨v,n,rfl,hv,hn⟩);((have e4:v=0\/v=1\/v=2\/v=3:=by omega);rcases e4 with rfl|rfl|rfl|rfl)
  all_goals refine VOK_lt rfl rfl (VOK_lt rfl rfl ?_);(first
                                                        |exact A_ (x:=.mk 2 _ _ _ _ _ _ _ _ []) rfl (v_ (by decide)) hn
                                                        |exact A_ (x:=.mk 1 _ _ _ _ _ _ _ _ []) rfl (L_ (by unfold X_;omega) (by first|exact .inl rfl|exact .inr (.inl rfl)|exact .inr (.inr (.inl rfl))|exact .inr (.inr (.inr rfl)))) hn)
 ·(first
    |exact A_ (x:=.mk 2 _ _ _ _ _ _ _ _ []) rfl (v_ (by decide)) hn
    |exact A_ (x:=.mk 1 _ _ _ _ _ _ _ _ []) rfl (L_ (by unfold X_;omega) (by first|exact .inl rfl|exact .inr (.inl rfl)|exact .inr (.inr (.inl rfl))|exact .inr (.inr (.inr rfl)))) hn)
theorem zP_ {l:List UInt8} {a:AV} (hp:Pk l a) (d:Nat) (hd2:d<=100) (h83:PX l a 152 (d+1)) (h81:1<=d->PX l a 150 d):PX l a 150 (d+1):=by
 intro n k hn hk;have hA:=hp.1.ok wA_;refine va_ (c:=AS_) (n:=300) (t:=Ad_) mo ov rfl (λY _=>vu_ _) (by kernel_rfl) λY hf hg=>?_;unfold Ad_
 (refine r_ rfl rfl (λh=>?_) (λh=>?_)<;>rw [o_]at h)
 ·(refine a_ (h83 _ _ hn (by first|decide|(simp only [decide_eq_true_eq,decide_eq_false_iff_not]at *; omega))) rfl (S_ hA) ⟨?_,trivial⟩;intro ws hw;obtain ⟨⟨op,kd,nm,fd,ad,nn,vk,vi,vf,args⟩,n,rfl,hx,hn⟩:=hw);exact A_ (x:=.mk ..) rfl hx hn
 have hX:=h81 (by simp at h;omega)
 (refine a_ (T_ hp hn (by first|decide|omega) (by first|decide|omega)) rfl (okP hA) ⟨?_,trivial⟩;intro ws hw;rcases hw with ⟨v,n,rfl,hv,hn⟩);(refine r_ rfl rfl (λh=>?_) (λh=>?_)<;>rw [o_]at h)
 ·(refine a_ (h83 _ _ hn (by first|decide|(simp only [decide_eq_true_eq,decide_eq_false_iff_not]at *; omega))) rfl (S_ hA) ⟨?_,trivial⟩;intro ws hw;obtain ⟨⟨op,kd,nm,fd,ad,nn,vk,vi,vf,args⟩,n,rfl,hx,hn⟩:=hw);exact A_ (x:=.mk ..) rfl hx hn
 (refine r_ rfl rfl (λh=>?_) (λh=>?_)<;>rw [o_]at h)
 ·(refine a_ (T_ hp hn (by first|decide|omega) (by first|decide|omega)) rfl (okP hA) ⟨?_,trivial⟩;intro ws hw;rcases hw with ⟨v,n,rfl,hv,hn⟩);(refine r_ rfl rfl (λh=>?_) (λh=>?_)<;>rw [o_]at h)
  ·(refine VOK_lt (G_ (z:=(d:Int)) (by omega) (by omega) (by omega)) rfl ?_);(refine a_ (hX _ _ hn (by first|decide|(simp only [decide_eq_true_eq,decide_eq_false_iff_not]at *; omega))) rfl (S_ hA) ⟨?_,trivial⟩;intro ws hw;obtain ⟨⟨op,kd,nm,fd,ad,nn,vk,vi,vf,args⟩,n,rfl,hx,hn⟩:=hw);(exact A_ (x:=.mk _ _ _ _ _ _ _ _ _ [.mk ..]) rfl (wa_ (by first|decide|(refine .inr (.inr (.inr ⟨rfl,?_,?_⟩))<;>(simp only [decide_eq_true_eq,decide_eq_false_iff_not]at *; omega))) (by assumption)) hn)
  (refine r_ rfl rfl (λh=>?_) (λh=>?_)<;>rw [o_]at h)
  ·(refine a_ (T_ hp hn (by first|decide|omega) (by first|decide|omega)) rfl (okP hA) ⟨?_,trivial⟩;intro ws hw;rcases hw with ⟨v,n,rfl,hv,hn⟩);(refine VOK_lt (p_ (by omega) (by omega)) rfl ?_);(refine VOK_lt (G_ (z:=(d:Int)) (by omega) (by omega) (by omega)) rfl ?_);(refine a_ (hX _ _ hn (by first|decide|(simp only [decide_eq_true_eq,decide_eq_false_iff_not]at *; omega))) rfl (S_ hA) ⟨?_,trivial⟩;intro ws hw;obtain ⟨⟨op,kd,nm,fd,ad,nn,vk,vi,vf,args⟩,n,rfl,hx,hn⟩:=hw);(refine VOK_lt (G_ (z:=(d:Int)) (by omega) (by omega) (by omega)) rfl ?_);(refine a_ (hX _ _ hn (by first|decide|(simp only [decide_eq_true_eq,decide_eq_false_iff_not]at *; omega))) rfl (S_ hA) ⟨?_,trivial⟩;intro ws hw;obtain ⟨⟨op,kd,nm,fd,ad,nn,vk,vi,vf,args⟩,n,rfl,hx,hn⟩:=hw);(exact A_ (x:=.mk _ _ _ _ _ _ _ _ _ [.mk ..,.mk ..]) rfl (wb_ (by omega) (by assumption) (by assumption)) hn)
  ·(refine a_ (T_ hp hn (by first|decide|omega) (by first|decide|omega)) rfl (okP hA) ⟨?_,trivial⟩;intro ws hw;rcases hw with ⟨v,n,rfl,hv,hn⟩);(refine VOK_lt (p_ (by omega) (by omega)) rfl ?_);(refine a_ (T_ hp hn (by first|decide|omega) (by first|decide|omega)) rfl (okP hA) ⟨?_,trivial⟩;intro ws hw;rcases hw with ⟨v,n,rfl,hv,hn⟩);(refine VOK_lt (p_ (by omega) (by omega)) rfl ?_);(refine VOK_lt (G_ (z:=(d:Int)) (by omega) (by omega) (by omega)) rfl ?_);(refine a_ (hX _ _ hn (by first|decide|(simp only [decide_eq_true_eq,decide_eq_false_iff_not]at *; omega))) rfl (S_ hA) ⟨?_,trivial⟩;intro ws hw;obtain ⟨⟨op,kd,nm,fd,ad,nn,vk,vi,vf,args⟩,n,rfl,hx,hn⟩:=hw);(refine VOK_lt (G_ (z:=(d:Int)) (by omega) (by omega) (by omega)) rfl ?_);(refine a_ (hX _ _ hn (by first|decide|(simp only [decide_eq_true_eq,decide_eq_false_iff_not]at *; omega))) rfl (S_ hA) ⟨?_,trivial⟩;intro ws hw;obtain ⟨⟨op,kd,nm,fd,ad,nn,vk,vi,vf,args⟩,n,rfl,hx,hn⟩:=hw);(exact A_ (x:=.mk _ _ _ _ _ _ _ _ _ [.mk ..,.mk ..]) rfl (wb_ (by omega) (by assumption) (by assumption)) hn)
 ·(refine a_ (T_ hp hn (by first|decide|omega) (by first|decide|omega)) rfl (okP hA) ⟨?_,trivial⟩;intro ws hw;rcases hw with ⟨v,n,rfl,hv,hn⟩);(refine r_ rfl rfl (λh=>?_) (λh=>?_)<;>rw [o_]at h)
  ·(refine VOK_lt (G_ (z:=(d:Int)) (by omega) (by omega) (by omega)) rfl ?_);(refine a_ (hX _ _ hn (by first|decide|(simp only [decide_eq_true_eq,decide_eq_false_iff_not]at *; omega))) rfl (S_ hA) ⟨?_,trivial⟩;intro ws hw;obtain ⟨⟨op,kd,nm,fd,ad,nn,vk,vi,vf,args⟩,n,rfl,hx,hn⟩:=hw);(exact A_ (x:=.mk _ _ _ _ _ _ _ _ _ [.mk ..]) rfl (wa_ (by first|decide|(refine .inr (.inr (.inr ⟨rfl,?_,?_⟩))<;>(simp only [decide_eq_true_eq,decide_eq_false_iff_not]at *; omega))) (by assumption)) hn)
  (refine r_ rfl rfl (λh=>?_) (λh=>?_)<;>rw [o_]at h)
  ·(refine a_ (T_ hp hn (by first|decide|omega) (by first|decide|omega)) rfl (okP hA) ⟨?_,trivial⟩;intro ws hw;rcases hw with ⟨v,n,rfl,hv,hn⟩);(refine VOK_lt (p_ (by omega) (by omega)) rfl ?_);(refine VOK_lt (G_ (z:=(d:Int)) (by omega) (by omega) (by omega)) rfl ?_);(refine a_ (hX _ _ hn (by first|decide|(simp only [decide_eq_true_eq,decide_eq_false_iff_not]at *; omega))) rfl (S_ hA) ⟨?_,trivial⟩;intro ws hw;obtain ⟨⟨op,kd,nm,fd,ad,nn,vk,vi,vf,args⟩,n,rfl,hx,hn⟩:=hw);(exact A_ (x:=.mk _ _ _ _ _ _ _ _ _ [.mk ..]) rfl (wa_ (by first|decide|(refine .inr (.inr (.inr ⟨rfl,?_,?_⟩))<;>(simp only [decide_eq_true_eq,decide_eq_false_iff_not]at *; omega))) (by assumption)) hn)
  (refine r_ rfl rfl (λh=>?_) (λh=>?_)<;>rw [o_]at h)
  ·(refine r_ rfl rfl (λh=>?_) (λh=>?_)<;>rw [o_]at h)
   ·(refine VOK_lt (G_ (z:=(d:Int)) (by omega) (by omega) (by omega)) rfl ?_);(refine a_ (hX _ _ hn (by first|decide|(simp only [decide_eq_true_eq,decide_eq_false_iff_not]at *; omega))) rfl (S_ hA) ⟨?_,trivial⟩;intro ws hw;obtain ⟨⟨op,kd,nm,fd,ad,nn,vk,vi,vf,args⟩,n,rfl,hx,hn⟩:=hw);(refine VOK_lt (G_ (z:=(d:Int)) (by omega) (by omega) (by omega)) rfl ?_);(refine a_ (hX _ _ hn (by first|decide|(simp only [decide_eq_true_eq,decide_eq_false_iff_not]at *; omega))) rfl (S_ hA) ⟨?_,trivial⟩;intro ws hw;obtain ⟨⟨op,kd,nm,fd,ad,nn,vk,vi,vf,args⟩,n,rfl,hx,hn⟩:=hw);(exact A_ (x:=.mk _ _ _ _ _ _ _ _ _ [.mk ..,.mk ..]) rfl (wb_ (by omega) (by assumption) (by assumption)) hn)
   ·(refine a_ (T_ hp hn (by first|decide|omega) (by first|decide|omega)) rfl (okP hA) ⟨?_,trivial⟩;intro ws hw;rcases hw with ⟨v,n,rfl,hv,hn⟩);(refine VOK_lt (p_ (by omega) (by omega)) rfl ?_);(refine VOK_lt (G_ (z:=(d:Int)) (by omega) (by omega) (by omega)) rfl ?_);(refine a_ (hX _ _ hn (by first|decide|(simp only [decide_eq_true_eq,decide_eq_false_iff_not]at *; omega))) rfl (S_ hA) ⟨?_,trivial⟩;intro ws hw;obtain ⟨⟨op,kd,nm,fd,ad,nn,vk,vi,vf,args⟩,n,rfl,hx,hn⟩:=hw);(refine VOK_lt (G_ (z:=(d:Int)) (by omega) (by omega) (by omega)) rfl ?_);(refine a_ (hX _ _ hn (by first|decide|(simp only [decide_eq_true_eq,decide_eq_false_iff_not]at *; omega))) rfl (S_ hA) ⟨?_,trivial⟩;intro ws hw;obtain ⟨⟨op,kd,nm,fd,ad,nn,vk,vi,vf,args⟩,n,rfl,hx,hn⟩:=hw);(exact A_ (x:=.mk _ _ _ _ _ _ _ _ _ [.mk ..,.mk ..]) rfl (wb_ (by omega) (by assumption) (by assumption)) hn)
  ·(refine a_ (T_ hp hn (by first|decide|omega) (by first|decide|omega)) rfl (okP hA) ⟨?_,trivial⟩;intro ws hw;rcases hw with ⟨v,n,rfl,hv,hn⟩);(refine VOK_lt (p_ (by omega) (by omega)) rfl ?_);(refine VOK_lt (G_ (z:=(d:Int)) (by omega) (by omega) (by omega)) rfl ?_);(refine a_ (hX _ _ hn (by first|decide|(simp only [decide_eq_true_eq,decide_eq_false_iff_not]at *; omega))) rfl (S_ hA) ⟨?_,trivial⟩;intro ws hw;obtain ⟨⟨op,kd,nm,fd,ad,nn,vk,vi,vf,args⟩,n,rfl,hx,hn⟩:=hw);(refine VOK_lt (G_ (z:=(d:Int)) (by omega) (by omega) (by omega)) rfl ?_);(refine a_ (hX _ _ hn (by first|decide|(simp only [decide_eq_true_eq,decide_eq_false_iff_not]at *; omega))) rfl (S_ hA) ⟨?_,trivial⟩;intro ws hw;obtain ⟨⟨op,kd,nm,fd,ad,nn,vk,vi,vf,args⟩,n,rfl,hx,hn⟩:=hw);(exact A_ (x:=.mk _ _ _ _ _ _ _ _ _ [.mk ..,.mk ..]) rfl (wb_ (by omega) (by assumption) (by assumption)) hn)
theorem pX {l:List UInt8} {a:AV} (hp:Pk l a):∀d:Nat,d<=100->PX l a 152 (d+1)/\PX l a 150 (d+1)
 |0,h=>by have h1:=zQ_ hp 0 h (λh=>by omega);exact ⟨h1,zP_ hp 0 h h1 (λh=>by omega)⟩
 |d+1,h=>by have ih:=pX hp d (by omega);have h1:=zQ_ hp (d+1) h (λ_=>ih.2);exact ⟨h1,zP_ hp (d+1) h h1 (λ_=>ih.2)⟩
end Go.Proofs.YtelnbodnjmldeaaGreat.vars
set_option maxRecDepth 100000
set_option linter.unusedVariables false
set_option linter.unusedSimpArgs false
namespace Go.Proofs.YtelnbodnjmldeaaGreat.vars
open Go Go.Sx
def RS (l:List UInt8) (d:Nat):Nat->List AV->Prop:=λ_ ws=>∃(x:GS) (n:Nat),ws=Y_ x++[.int .i64 (n:Int)]/\WS d x/\n<=l.length
def RB (l:List UInt8) (d m:Nat):Nat->List AV->Prop:=λ_ ws=>∃(x:List GS) (n:Nat),ws=[H_ x,.int .i64 (n:Int)]/\(x.length<=m/\∀s∈x,WS d s)/\n<=l.length
def PS (l:List UInt8) (a:AV) (d:Nat):Prop:=∀n:Nat,n<=l.length->CF Tryz.prog 98 ft98 [a,.int .i64 (n:Int),.int .i64 (d:Int)] (RS l (d+1))
def PB (l:List UInt8) (a:AV) (d:Nat):Prop:=∀(n m:Nat),n<=l.length->1<=m->m<=10->CF Tryz.prog 55 ft55 [a,.int .i64 (n:Int),.int .i64 (m:Int),.int .i64 (d:Int)] (RB l (d+1) m)
theorem zJ_ (x:GS) (n:Int):okL (Y_ x++[.int .i64 n])=true:=kP_.okL_join (okS x) rfl
theorem V_ {l:List UInt8} {d n j:Nat} {x:GS} {hv:List AV} {Y:Sy} {L:List (Nat->List AV->Prop)} (h:ab_ Y.v hv=Y_ x++[.int .i64 (n:Int)]) (hw:WS d x) (hn:n<=l.length):VOK Tryz.prog (QF (RS l d)) L Y (.done (.tup (.int .i64 (.ofNat j)::hv))):=
 VOK_fin (by rw [h];exact zJ_ x n) ⟨x,n,h,hw,hn⟩
theorem bm_ {d:Nat} {to e:GX} (h1:WX 5 to) (h2:to.op=2\/to.op=3) (h3:WX 5 e):WS (d+1) (.mk 1 to e [] [] [] 0 0 []):=.inl ⟨rfl,h1,h2,d_ (by omega) h3,rfl,rfl⟩
theorem B_ {d:Nat} {to e:GX} {nm:List UInt8} {kd ad:Int} {args:List GX} (h0:nm=[116,109]\/nm=[99]\/nm=[101]) (h1:args.length<=2) (h2:∀a∈args,WX 5 a):WS (d+1) (.mk 4 to e [] [] nm kd ad args):=.inr (.inr ⟨rfl,h0,h1,h2,rfl,rfl⟩)
theorem wV_ {d:Nat} {op:Int} {to e:GX} {thn els:List GS} {nm:List UInt8} {kd ad:Int} {args:List GX} (h1:op=2\/op=3) (h:WX 5 e) (h2:thn.length<=5) (h3:els.length<=5) (h4:∀s∈thn,WS d s) (h5:∀s∈els,WS d s):WS (d+1) (.mk op to e thn els nm kd ad args):=.inr (.inl ⟨h1,h,h2,h3,h4,h5⟩)
theorem xs_ {x:GX} (h:WX 5 x):∀a∈[x],WX 5 a:=λa ha=>by cases List.mem_singleton.1 ha;exact h
theorem wn_ {x y:GX} (h:WX 5 x) (h2:WX 5 y):∀a∈[x,y],WX 5 a:=λa ha=>by rcases List.mem_cons.1 ha with rfl|ha;exact h;exact xs_ h2 a ha
theorem sp_ {s:List UInt8} (h:(s,[])∈vL_):WX 5 (.mk 2 0 s [] 0 0 0 0 0 []):=v_ h
def AT_:VC:=⟨⟨[],[]⟩,[],[],0,true,[]⟩
def Ae_:VT:=.done (.agg [J 2,J 0,64,.str [],J 0,J 0,J 0,J 0,.flt .f64 0,.nsl])
def AV_:VC:=⟨⟨[],[]⟩,[],[],0,true,[]⟩
def Ag_:VT:=.done (.agg [J 1,J 0,.str [],.str [],J 0,J 0,64,65,66,.nsl])
theorem v1_ (s:List UInt8):jw_ Tryz.prog 151 [.str s] (.agg (q_ (.mk 2 0 s [] 0 0 0 0 0 []))):=by refine t0_ (sh:=[none]) (ls:=[.str s]) (c:=AT_) (n:=300) (t:=Ae_) mo ov rfl rfl rfl (λY _=>vu_ _) rfl (by kernel_rfl) λY hf hg=>?_;unfold Ae_;exact uw_ rfl
theorem zR_:jw_ Tryz.prog 153 [.agg [.int .i64 3,.int .i64 1,.flt .f64 0]] (.agg (q_ (.mk 1 0 [] [] 0 0 3 1 0 []))):=by refine t0_ (sh:=[some 3]) (ls:=[.int .i64 3,.int .i64 1,.flt .f64 0]) (c:=AV_) (n:=300) (t:=Ag_) mo ov rfl rfl rfl (λY _=>vu_ _) rfl (by kernel_rfl) λY hf hg=>?_;unfold Ag_;exact uw_ rfl
def c98:VC:=⟨⟨[],[]⟩,[(151,[(some 10)]),(153,[(some 10)])],[],1,true,[(46,ft46),(150,k_),(152,tT_),(55,ft55)]⟩
def t98:VT:=Cf 46 ft46 [64,65,J 12] 67 2<|Iq 70 0 72 (It Qb [66,J 0] 73 (Cf 150 k_ [64,71,J 1,J 3] 74 11<|Li Qj [66,J 1] 89<|Cf 55 ft55 [64,88,J 2,89] 90 2<|Cf 46 ft46 [64,95,J 2] 96 2<|Iq 99 0 101 (Li Qj [66,J 1] 102<|Cf 55 ft55 [64,100,J 2,102] 103 2<|Dn [J 2,J 0,J 0,.str [],.str [],J 0,J 0,J 0,J 0,.flt .f64 0,.nsl,78,79,80,81,82,83,84,85,86,87,94,107,.str [],J 0,J 0,.nsl,108])<|Dn [J 2,J 0,J 0,.str [],.str [],J 0,J 0,J 0,J 0,.flt .f64 0,.nsl,78,79,80,81,82,83,84,85,86,87,94,.nsl,.str [],J 0,J 0,.nsl,100])<|Iq 70 1 74 (It Qb [66,J 0] 75 (.call 151 [.str [120]] 76 [(some 10)]<|Cf 152 tT_ [64,71,J 2,J 1] 86 11<|Li Qj [66,J 1] 101<|Cf 55 ft55 [64,100,J 1,101] 102 2<|.call 151 [.str [120]] 108 [(some 10)]<|.call 151 [.str [120]] 118 [(some 10)]<|.call 153 [.agg [J 3,J 1,.flt .f64 0]] 128 [(some 10)]<|Li Zm [106,.agg [J 1,108,109,110,111,112,113,114,115,116,117,J 4,J 0,.str [],.str [],J 0,J 0,J 0,J 0,.flt .f64 0,.vsl 2 10 [118,119,120,121,122,123,124,125,126,127,128,129,130,131,132,133,134,135,136,137],.nsl,.nsl,.str [],J 0,J 0,.nsl]] 138<|Dn [J 3,J 0,J 0,.str [],.str [],J 0,J 0,J 0,J 0,.flt .f64 0,.nsl,J 11,J 0,.str [],.str [],J 0,J 0,J 0,J 0,.flt .f64 0,.vsl 2 10 [76,77,78,79,80,81,82,83,84,85,90,91,92,93,94,95,96,97,98,99],138,.nsl,.str [],J 0,J 0,.nsl,107])<|Iq 70 2 76 (Cf 150 k_ [64,71,J 1,J 2] 77 11<|Cf 150 k_ [64,91,J 4,J 2] 92 11<|Dn [J 4,J 0,J 0,.str [],.str [],J 0,J 0,J 0,J 0,.flt .f64 0,.nsl,J 0,J 0,.str [],.str [],J 0,J 0,J 0,J 0,.flt .f64 0,.nsl,.nsl,.nsl,.str [116,109],J 0,J 0,.vsl 2 10 [81,82,83,84,85,86,87,88,89,90,96,97,98,99,100,101,102,103,104,105],106])<|Iq 70 3 77 (Cf 150 k_ [64,71,J 1,J 2] 78 11<|Cf 152 tT_ [64,92,J 2,J 1] 93 11<|Dn [J 4,J 0,J 0,.str [],.str [],J 0,J 0,J 0,J 0,.flt .f64 0,.nsl,J 0,J 0,.str [],.str [],J 0,J 0,J 0,J 0,.flt .f64 0,.nsl,.nsl,.nsl,.str [99],J 0,J 0,.vsl 2 10 [82,83,84,85,86,87,88,89,90,91,97,98,99,100,101,102,103,104,105,106],107])<|Iq 70 4 78 (Cf 150 k_ [64,71,J 1,J 2] 79 11<|Dn [J 4,J 0,J 0,.str [],.str [],J 0,J 0,J 0,J 0,.flt .f64 0,.nsl,J 0,J 0,.str [],.str [],J 0,J 0,J 0,J 0,.flt .f64 0,.nsl,.nsl,.nsl,.str [101],J 0,J 0,.vsl 1 10 [83,84,85,86,87,88,89,90,91,92],93])<|Iq 70 5 79 (Cf 150 k_ [64,71,J 2,J 2] 80 11<|Cf 150 k_ [64,94,J 2,J 3] 95 11<|Dn [J 1,J 3,J 0,.str [107],.str [],J 0,J 0,J 0,J 0,.flt .f64 0,.vsl 1 10 [84,85,86,87,88,89,90,91,92,93],99,100,101,102,103,104,105,106,107,108,.nsl,.nsl,.str [],J 0,J 0,.nsl,109])<|Cf 46 ft46 [64,71,J 6] 80 2<|Li Zn [.vsl 6 1 [.str [111],.str [120],.str [113],.str [121],.str [122],.str [119]],83] 85<|Li Zo [85] 86<|Li Zp [86] 87<|.call 151 [86] 88 [(some 10)]<|Cf 150 k_ [64,84,87,J 4] 98 11<|Dn [J 1,88,89,90,91,92,93,94,95,96,97,102,103,104,105,106,107,108,109,110,111,.nsl,.nsl,.str [],J 0,J 0,.nsl,112])<|Iq 70 2 75 (Cf 150 k_ [64,71,J 1,J 2] 76 11<|Cf 150 k_ [64,90,J 4,J 2] 91 11<|Dn [J 4,J 0,J 0,.str [],.str [],J 0,J 0,J 0,J 0,.flt .f64 0,.nsl,J 0,J 0,.str [],.str [],J 0,J 0,J 0,J 0,.flt .f64 0,.nsl,.nsl,.nsl,.str [116,109],J 0,J 0,.vsl 2 10 [80,81,82,83,84,85,86,87,88,89,95,96,97,98,99,100,101,102,103,104],105])<|Iq 70 3 76 (Cf 150 k_ [64,71,J 1,J 2] 77 11<|Cf 152 tT_ [64,91,J 2,J 1] 92 11<|Dn [J 4,J 0,J 0,.str [],.str [],J 0,J 0,J 0,J 0,.flt .f64 0,.nsl,J 0,J 0,.str [],.str [],J 0,J 0,J 0,J 0,.flt .f64 0,.nsl,.nsl,.nsl,.str [99],J 0,J 0,.vsl 2 10 [81,82,83,84,85,86,87,88,89,90,96,97,98,99,100,101,102,103,104,105],106])<|Iq 70 4 77 (Cf 150 k_ [64,71,J 1,J 2] 78 11<|Dn [J 4,J 0,J 0,.str [],.str [],J 0,J 0,J 0,J 0,.flt .f64 0,.nsl,J 0,J 0,.str [],.str [],J 0,J 0,J 0,J 0,.flt .f64 0,.nsl,.nsl,.nsl,.str [101],J 0,J 0,.vsl 1 10 [82,83,84,85,86,87,88,89,90,91],92])<|Iq 70 5 78 (Cf 150 k_ [64,71,J 2,J 2] 79 11<|Cf 150 k_ [64,93,J 2,J 3] 94 11<|Dn [J 1,J 3,J 0,.str [107],.str [],J 0,J 0,J 0,J 0,.flt .f64 0,.vsl 1 10 [83,84,85,86,87,88,89,90,91,92],98,99,100,101,102,103,104,105,106,107,.nsl,.nsl,.str [],J 0,J 0,.nsl,108])<|Cf 46 ft46 [64,71,J 6] 79 2<|Li Zn [.vsl 6 1 [.str [111],.str [120],.str [113],.str [121],.str [122],.str [119]],82] 84<|Li Zo [84] 85<|Li Zp [85] 86<|.call 151 [85] 87 [(some 10)]<|Cf 150 k_ [64,83,86,J 4] 97 11<|Dn [J 1,87,88,89,90,91,92,93,94,95,96,101,102,103,104,105,106,107,108,109,110,.nsl,.nsl,.str [],J 0,J 0,.nsl,111])<|Iq 70 1 73 (It Qb [66,J 0] 74 (.call 151 [.str [120]] 75 [(some 10)]<|Cf 152 tT_ [64,71,J 2,J 1] 85 11<|Li Qj [66,J 1] 100<|Cf 55 ft55 [64,99,J 1,100] 101 2<|.call 151 [.str [120]] 107 [(some 10)]<|.call 151 [.str [120]] 117 [(some 10)]<|.call 153 [.agg [J 3,J 1,.flt .f64 0]] 127 [(some 10)]<|Li Zm [105,.agg [J 1,107,108,109,110,111,112,113,114,115,116,J 4,J 0,.str [],.str [],J 0,J 0,J 0,J 0,.flt .f64 0,.vsl 2 10 [117,118,119,120,121,122,123,124,125,126,127,128,129,130,131,132,133,134,135,136],.nsl,.nsl,.str [],J 0,J 0,.nsl]] 137<|Dn [J 3,J 0,J 0,.str [],.str [],J 0,J 0,J 0,J 0,.flt .f64 0,.nsl,J 11,J 0,.str [],.str [],J 0,J 0,J 0,J 0,.flt .f64 0,.vsl 2 10 [75,76,77,78,79,80,81,82,83,84,89,90,91,92,93,94,95,96,97,98],137,.nsl,.str [],J 0,J 0,.nsl,106])<|Iq 70 2 75 (Cf 150 k_ [64,71,J 1,J 2] 76 11<|Cf 150 k_ [64,90,J 4,J 2] 91 11<|Dn [J 4,J 0,J 0,.str [],.str [],J 0,J 0,J 0,J 0,.flt .f64 0,.nsl,J 0,J 0,.str [],.str [],J 0,J 0,J 0,J 0,.flt .f64 0,.nsl,.nsl,.nsl,.str [116,109],J 0,J 0,.vsl 2 10 [80,81,82,83,84,85,86,87,88,89,95,96,97,98,99,100,101,102,103,104],105])<|Iq 70 3 76 (Cf 150 k_ [64,71,J 1,J 2] 77 11<|Cf 152 tT_ [64,91,J 2,J 1] 92 11<|Dn [J 4,J 0,J 0,.str [],.str [],J 0,J 0,J 0,J 0,.flt .f64 0,.nsl,J 0,J 0,.str [],.str [],J 0,J 0,J 0,J 0,.flt .f64 0,.nsl,.nsl,.nsl,.str [99],J 0,J 0,.vsl 2 10 [81,82,83,84,85,86,87,88,89,90,96,97,98,99,100,101,102,103,104,105],106])<|Iq 70 4 77 (Cf 150 k_ [64,71,J 1,J 2] 78 11<|Dn [J 4,J 0,J 0,.str [],.str [],J 0,J 0,J 0,J 0,.flt .f64 0,.nsl,J 0,J 0,.str [],.str [],J 0,J 0,J 0,J 0,.flt .f64 0,.nsl,.nsl,.nsl,.str [101],J 0,J 0,.vsl 1 10 [82,83,84,85,86,87,88,89,90,91],92])<|Iq 70 5 78 (Cf 150 k_ [64,71,J 2,J 2] 79 11<|Cf 150 k_ [64,93,J 2,J 3] 94 11<|Dn [J 1,J 3,J 0,.str [107],.str [],J 0,J 0,J 0,J 0,.flt .f64 0,.vsl 1 10 [83,84,85,86,87,88,89,90,91,92],98,99,100,101,102,103,104,105,106,107,.nsl,.nsl,.str [],J 0,J 0,.nsl,108])<|Cf 46 ft46 [64,71,J 6] 79 2<|Li Zn [.vsl 6 1 [.str [111],.str [120],.str [113],.str [121],.str [122],.str [119]],82] 84<|Li Zo [84] 85<|Li Zp [85] 86<|.call 151 [85] 87 [(some 10)]<|Cf 150 k_ [64,83,86,J 4] 97 11<|Dn [J 1,87,88,89,90,91,92,93,94,95,96,101,102,103,104,105,106,107,108,109,110,.nsl,.nsl,.str [],J 0,J 0,.nsl,111])<|Iq 70 2 74 (Cf 150 k_ [64,71,J 1,J 2] 75 11<|Cf 150 k_ [64,89,J 4,J 2] 90 11<|Dn [J 4,J 0,J 0,.str [],.str [],J 0,J 0,J 0,J 0,.flt .f64 0,.nsl,J 0,J 0,.str [],.str [],J 0,J 0,J 0,J 0,.flt .f64 0,.nsl,.nsl,.nsl,.str [116,109],J 0,J 0,.vsl 2 10 [79,80,81,82,83,84,85,86,87,88,94,95,96,97,98,99,100,101,102,103],104])<|Iq 70 3 75 (Cf 150 k_ [64,71,J 1,J 2] 76 11<|Cf 152 tT_ [64,90,J 2,J 1] 91 11<|Dn [J 4,J 0,J 0,.str [],.str [],J 0,J 0,J 0,J 0,.flt .f64 0,.nsl,J 0,J 0,.str [],.str [],J 0,J 0,J 0,J 0,.flt .f64 0,.nsl,.nsl,.nsl,.str [99],J 0,J 0,.vsl 2 10 [80,81,82,83,84,85,86,87,88,89,95,96,97,98,99,100,101,102,103,104],105])<|Iq 70 4 76 (Cf 150 k_ [64,71,J 1,J 2] 77 11<|Dn [J 4,J 0,J 0,.str [],.str [],J 0,J 0,J 0,J 0,.flt .f64 0,.nsl,J 0,J 0,.str [],.str [],J 0,J 0,J 0,J 0,.flt .f64 0,.nsl,.nsl,.nsl,.str [101],J 0,J 0,.vsl 1 10 [81,82,83,84,85,86,87,88,89,90],91])<|Iq 70 5 77 (Cf 150 k_ [64,71,J 2,J 2] 78 11<|Cf 150 k_ [64,92,J 2,J 3] 93 11<|Dn [J 1,J 3,J 0,.str [107],.str [],J 0,J 0,J 0,J 0,.flt .f64 0,.vsl 1 10 [82,83,84,85,86,87,88,89,90,91],97,98,99,100,101,102,103,104,105,106,.nsl,.nsl,.str [],J 0,J 0,.nsl,107])<|Cf 46 ft46 [64,71,J 6] 78 2<|Li Zn [.vsl 6 1 [.str [111],.str [120],.str [113],.str [121],.str [122],.str [119]],81] 83<|Li Zo [83] 84<|Li Zp [84] 85<|.call 151 [84] 86 [(some 10)]<|Cf 150 k_ [64,82,85,J 4] 96 11<|Dn [J 1,86,87,88,89,90,91,92,93,94,95,100,101,102,103,104,105,106,107,108,109,.nsl,.nsl,.str [],J 0,J 0,.nsl,110]
def c55:VC:=⟨⟨[],[]⟩,[],[(0,[⟨[(8,.slx 0 0 0),(2,67),(0,.ptr 0 0),(7,.slx 1 27 1)],[(0,[64,.slx 2 0 0])],2,3,[⟨1,27,1,7,none⟩],[],[]⟩])],1,true,[(46,ft46),(98,ft98)]⟩
def t55:VT:=Cf 46 ft46 [64,65,66] 68 2<|Li Q3 [71,J 1] 73<|.loop 74 0 [73,.nsl,72] (.cons 3 (It Qb [74,J 0] 77 (Cf 98 ft98 [64,76,67] 78 28<|Li Zm [75,.agg [81,82,83,84,85,86,87,88,89,90,91,92,93,94,95,96,97,98,99,100,101,102,103,104,105,106,107]] 109<|Li Qj [74,J 1] 110<|.again 0 0 [110,109,108])<|Dn [75,76]) .nil)
theorem sx_ (l:List GS) (s:GS) (hl:l.length<=1000):(XOp.app 27 336).run Tryz.prog [H_ l,.agg (Y_ s)]=some (H_ (l++[s])):=by rw [vC_,vC_];exact t3_ y7_ (by decide) (by decide) l s (by omega)
theorem okR {a:AV} (h:okC a=true) {n m k:Int}:okL [a,.int .i64 n,.int .i64 m,.int .i64 k]=true:=by simp only [okL,okC,h]
theorem p98 {l:List UInt8} {a:AV} (hp:Pk l a) (d:Nat) (hd2:d<=100) (hB:∀e,d=e+1->PB l a e):PS l a d:=by
 intro n hn;have hA:=hp.1.ok wA_;have h2:∀(n:Nat) (k:Int),n<=l.length->1<=k/\k<=5->CF Tryz.prog 150 ftX [a,.int .i64 (n:Int),.int .i64 k,.int .i64 2] (RX l 2):=(pX hp 1 (by decide)).2;have h3:∀(n:Nat) (k:Int),n<=l.length->1<=k/\k<=5->CF Tryz.prog 150 ftX [a,.int .i64 (n:Int),.int .i64 k,.int .i64 3] (RX l 3):=(pX hp 2 (by decide)).2;have h4:∀(n:Nat) (k:Int),n<=l.length->1<=k/\k<=5->CF Tryz.prog 150 ftX [a,.int .i64 (n:Int),.int .i64 k,.int .i64 4] (RX l 4):=(pX hp 3 (by decide)).2;have h31:∀(n:Nat) (k:Int),n<=l.length->1<=k/\k<=5->CF Tryz.prog 152 ftX [a,.int .i64 (n:Int),.int .i64 k,.int .i64 1] (RX l 1):=(pX hp 0 (by decide)).1;refine va_ (c:=c98) (n:=300) (t:=t98) mo ov rfl (λY _=>vu_ _) (by kernel_rfl) λY hf hg=>?_;unfold t98
 (refine a_ (T_ hp hn (by first|decide|omega) (by first|decide|omega)) rfl (okP hA) ⟨?_,trivial⟩;intro ws hw;rcases hw with ⟨v,n,rfl,hv,hn⟩)
 (refine r_ rfl rfl (λh=>?_) (λh=>?_)<;>rw [o_]at h)
 ·(refine r_ rfl rfl (λh=>?_) (λh=>?_)<;>rw [o_]at h)
  .obtain ⟨e,rfl⟩:∃e,d=e+1:=⟨d-1,by simp at h;omega⟩;have hB:=hB e rfl
   (refine a_ (h3 _ _ hn (by decide)) rfl (S_ hA) ⟨?_,trivial⟩;intro ws hw;obtain ⟨⟨op,kd,nm,fd,ad,nn,vk,vi,vf,args⟩,n,rfl,hx,hn⟩:=hw;replace hx:=d_ (e:=5) (by decide) hx)
   refine VOK_lt (G_ (z:=(e:Int)) (by omega) (by omega) (by omega)) rfl ?_;refine a_ (hB _ 2 hn (by decide) (by decide)) rfl (okR hA) ⟨?_,trivial⟩;rintro ws ⟨thn,n,rfl,⟨ht,hts⟩,hn⟩
   (refine a_ (T_ hp hn (by first|decide|omega) (by first|decide|omega)) rfl (okP hA) ⟨?_,trivial⟩;intro ws hw;rcases hw with ⟨v,n,rfl,hv,hn⟩)
   (refine r_ rfl rfl (λh=>?_) (λh=>?_)<;>rw [o_]at h)
   refine VOK_lt (G_ (z:=(e:Int)) (by omega) (by omega) (by omega)) rfl ?_;refine a_ (hB _ 2 hn (by decide) (by decide)) rfl (okR hA) ⟨?_,trivial⟩;rintro ws ⟨els,n,rfl,⟨he,hes⟩,hn⟩;exact V_ (x:=.mk _ (.mk _ _ _ _ _ _ _ _ _ []) (.mk ..) thn els _ _ _ []) rfl (wV_ (.inl rfl) (by assumption) (by omega) (by omega) hts hes) hn;exact V_ (x:=.mk _ (.mk _ _ _ _ _ _ _ _ _ []) (.mk ..) thn [] _ _ _ []) rfl (wV_ (.inl rfl) (by assumption) (by omega) (by decide) hts (λs hs=>(List.not_mem_nil hs).elim)) hn
  ·(
    (refine r_ rfl rfl (λh=>?_) (λh=>?_)<;>rw [o_]at h)
    ·(refine r_ rfl rfl (λh=>?_) (λh=>?_)<;>rw [o_]at h)
     .obtain ⟨e,rfl⟩:∃e,d=e+1:=⟨d-1,by simp at h;omega⟩;have hB:=hB e rfl;refine uv_ (v1_ _) rfl rfl ?_
      (refine a_ (h31 _ _ hn (by first|decide|(simp only [decide_eq_true_eq,decide_eq_false_iff_not]at *; omega))) rfl (S_ hA) ⟨?_,trivial⟩;intro ws hw;obtain ⟨⟨op,kd,nm,fd,ad,nn,vk,vi,vf,args⟩,n,rfl,hx,hn⟩:=hw)
      refine VOK_lt (G_ (z:=(e:Int)) (by omega) (by omega) (by omega)) rfl ?_;refine a_ (hB _ 1 hn (by decide) (by decide)) rfl (okR hA) ⟨?_,trivial⟩;rintro ws ⟨thn,n,rfl,⟨ht,hts⟩,hn⟩;refine uv_ (v1_ _) rfl rfl (uv_ (v1_ _) rfl rfl (uv_ zR_ rfl rfl ?_));refine VOK_lt (sx_ thn (.mk 1 (.mk _ _ _ _ _ _ _ _ _ []) (.mk _ _ _ _ _ _ _ _ _ [.mk _ _ _ _ _ _ _ _ _ [],.mk _ _ _ _ _ _ _ _ _ []]) [] [] _ _ _ []) (by omega)) (okB _) ?_;refine V_ (x:=.mk _ (.mk _ _ _ _ _ _ _ _ _ []) (.mk _ _ _ _ _ _ _ _ _ [.mk _ _ _ _ _ _ _ _ _ [],.mk ..]) (thn++[_]) [] _ _ _ []) rfl (wV_ (.inr rfl) ?_ ?_ (by decide) ?_ (λs hs=>(List.not_mem_nil hs).elim)) hn;exact wb_ (by decide) (v_ (by decide)) (d_ (e:=4) (by decide) hx);rw [List.length_append];simp;omega;intro s hs;rcases List.mem_append.1 hs with hs|hs;exact hts s hs;cases List.mem_singleton.1 hs;exact bm_ (sp_ (by decide)) (.inl rfl) (wb_ (by decide) (v_ (by decide)) (L_ (by unfold X_;omega) (.inl rfl)))
     ·(
       (refine r_ rfl rfl (λh=>?_) (λh=>?_)<;>rw [o_]at h)
       ·(refine a_ (h2 _ _ hn (by decide)) rfl (S_ hA) ⟨?_,trivial⟩;intro ws hw;obtain ⟨⟨op,kd,nm,fd,ad,nn,vk,vi,vf,args⟩,n,rfl,hx,hn⟩:=hw;replace hx:=d_ (e:=5) (by decide) hx);(refine a_ (h2 _ _ hn (by decide)) rfl (S_ hA) ⟨?_,trivial⟩;intro ws hw;obtain ⟨⟨op,kd,nm,fd,ad,nn,vk,vi,vf,args⟩,n,rfl,hx,hn⟩:=hw;replace hx:=d_ (e:=5) (by decide) hx);exact V_ (x:=.mk _ (.mk _ _ _ _ _ _ _ _ _ []) (.mk _ _ _ _ _ _ _ _ _ []) [] [] _ _ _ [.mk ..,.mk ..]) rfl (B_ (by decide) (by simp) (wn_ (by assumption) (by assumption))) hn
       (refine r_ rfl rfl (λh=>?_) (λh=>?_)<;>rw [o_]at h)
       ·(refine a_ (h2 _ _ hn (by decide)) rfl (S_ hA) ⟨?_,trivial⟩;intro ws hw;obtain ⟨⟨op,kd,nm,fd,ad,nn,vk,vi,vf,args⟩,n,rfl,hx,hn⟩:=hw;replace hx:=d_ (e:=5) (by decide) hx);(refine a_ (h31 _ _ hn (by decide)) rfl (S_ hA) ⟨?_,trivial⟩;intro ws hw;obtain ⟨⟨op,kd,nm,fd,ad,nn,vk,vi,vf,args⟩,n,rfl,hx,hn⟩:=hw;replace hx:=d_ (e:=5) (by decide) hx);exact V_ (x:=.mk _ (.mk _ _ _ _ _ _ _ _ _ []) (.mk _ _ _ _ _ _ _ _ _ []) [] [] _ _ _ [.mk ..,.mk ..]) rfl (B_ (by decide) (by simp) (wn_ (by assumption) (by assumption))) hn
       (refine r_ rfl rfl (λh=>?_) (λh=>?_)<;>rw [o_]at h)
       ·(refine a_ (h2 _ _ hn (by decide)) rfl (S_ hA) ⟨?_,trivial⟩;intro ws hw;obtain ⟨⟨op,kd,nm,fd,ad,nn,vk,vi,vf,args⟩,n,rfl,hx,hn⟩:=hw;replace hx:=d_ (e:=5) (by decide) hx);exact V_ (x:=.mk _ (.mk _ _ _ _ _ _ _ _ _ []) (.mk _ _ _ _ _ _ _ _ _ []) [] [] _ _ _ [.mk ..]) rfl (B_ (by decide) (by simp) (xs_ (by assumption))) hn
       (refine r_ rfl rfl (λh=>?_) (λh=>?_)<;>rw [o_]at h)
       ·(refine a_ (h2 _ _ hn (by first|decide|(simp only [decide_eq_true_eq,decide_eq_false_iff_not]at *; omega))) rfl (S_ hA) ⟨?_,trivial⟩;intro ws hw;obtain ⟨⟨op,kd,nm,fd,ad,nn,vk,vi,vf,args⟩,n,rfl,hx,hn⟩:=hw);rename WX _ _=>hx0;(refine a_ (h3 _ _ hn (by decide)) rfl (S_ hA) ⟨?_,trivial⟩;intro ws hw;obtain ⟨⟨op,kd,nm,fd,ad,nn,vk,vi,vf,args⟩,n,rfl,hx,hn⟩:=hw;replace hx:=d_ (e:=5) (by decide) hx)
        exact V_ (x:=.mk _ (.mk _ _ _ _ _ _ _ _ _ [.mk ..]) (.mk ..) [] [] _ _ _ []) rfl (bm_ (d_ (d:=4) (by decide) (wa_ (by decide) hx0)) (.inr rfl) (by assumption)) hn
       ·(refine a_ (T_ hp hn (by first|decide|omega) (by first|decide|omega)) rfl (okP hA) ⟨?_,trivial⟩;intro ws hw;rcases hw with ⟨v,n,rfl,hv,hn⟩)
        have e6:v=0\/v=1\/v=2\/v=3\/v=4\/v=5:=(by omega);rcases e6 with rfl|rfl|rfl|rfl|rfl|rfl;all_goals
         refine VOK_lt rfl rfl (VOK_lt rfl rfl (VOK_lt rfl rfl (uv_ (v1_ _) rfl rfl ?_)))
         (refine a_ (h4 _ _ hn (by decide)) rfl (S_ hA) ⟨?_,trivial⟩;intro ws hw;obtain ⟨⟨op,kd,nm,fd,ad,nn,vk,vi,vf,args⟩,n,rfl,hx,hn⟩:=hw;replace hx:=d_ (e:=5) (by decide) hx)
         exact V_ (x:=.mk _ (.mk _ _ _ _ _ _ _ _ _ []) (.mk ..) [] [] _ _ _ []) rfl (bm_ (sp_ (by decide)) (.inl rfl) (by assumption)) hn)
    ·(
      (refine r_ rfl rfl (λh=>?_) (λh=>?_)<;>rw [o_]at h)
      ·(refine a_ (h2 _ _ hn (by decide)) rfl (S_ hA) ⟨?_,trivial⟩;intro ws hw;obtain ⟨⟨op,kd,nm,fd,ad,nn,vk,vi,vf,args⟩,n,rfl,hx,hn⟩:=hw;replace hx:=d_ (e:=5) (by decide) hx);(refine a_ (h2 _ _ hn (by decide)) rfl (S_ hA) ⟨?_,trivial⟩;intro ws hw;obtain ⟨⟨op,kd,nm,fd,ad,nn,vk,vi,vf,args⟩,n,rfl,hx,hn⟩:=hw;replace hx:=d_ (e:=5) (by decide) hx);exact V_ (x:=.mk _ (.mk _ _ _ _ _ _ _ _ _ []) (.mk _ _ _ _ _ _ _ _ _ []) [] [] _ _ _ [.mk ..,.mk ..]) rfl (B_ (by decide) (by simp) (wn_ (by assumption) (by assumption))) hn
      (refine r_ rfl rfl (λh=>?_) (λh=>?_)<;>rw [o_]at h)
      ·(refine a_ (h2 _ _ hn (by decide)) rfl (S_ hA) ⟨?_,trivial⟩;intro ws hw;obtain ⟨⟨op,kd,nm,fd,ad,nn,vk,vi,vf,args⟩,n,rfl,hx,hn⟩:=hw;replace hx:=d_ (e:=5) (by decide) hx);(refine a_ (h31 _ _ hn (by decide)) rfl (S_ hA) ⟨?_,trivial⟩;intro ws hw;obtain ⟨⟨op,kd,nm,fd,ad,nn,vk,vi,vf,args⟩,n,rfl,hx,hn⟩:=hw;replace hx:=d_ (e:=5) (by decide) hx);exact V_ (x:=.mk _ (.mk _ _ _ _ _ _ _ _ _ []) (.mk _ _ _ _ _ _ _ _ _ []) [] [] _ _ _ [.mk ..,.mk ..]) rfl (B_ (by decide) (by simp) (wn_ (by assumption) (by assumption))) hn
      (refine r_ rfl rfl (λh=>?_) (λh=>?_)<;>rw [o_]at h)
      ·(refine a_ (h2 _ _ hn (by decide)) rfl (S_ hA) ⟨?_,trivial⟩;intro ws hw;obtain ⟨⟨op,kd,nm,fd,ad,nn,vk,vi,vf,args⟩,n,rfl,hx,hn⟩:=hw;replace hx:=d_ (e:=5) (by decide) hx);exact V_ (x:=.mk _ (.mk _ _ _ _ _ _ _ _ _ []) (.mk _ _ _ _ _ _ _ _ _ []) [] [] _ _ _ [.mk ..]) rfl (B_ (by decide) (by simp) (xs_ (by assumption))) hn
      (refine r_ rfl rfl (λh=>?_) (λh=>?_)<;>rw [o_]at h)
      ·(refine a_ (h2 _ _ hn (by first|decide|(simp only [decide_eq_true_eq,decide_eq_false_iff_not]at *; omega))) rfl (S_ hA) ⟨?_,trivial⟩;intro ws hw;obtain ⟨⟨op,kd,nm,fd,ad,nn,vk,vi,vf,args⟩,n,rfl,hx,hn⟩:=hw);rename WX _ _=>hx0;(refine a_ (h3 _ _ hn (by decide)) rfl (S_ hA) ⟨?_,trivial⟩;intro ws hw;obtain ⟨⟨op,kd,nm,fd,ad,nn,vk,vi,vf,args⟩,n,rfl,hx,hn⟩:=hw;replace hx:=d_ (e:=5) (by decide) hx)
       exact V_ (x:=.mk _ (.mk _ _ _ _ _ _ _ _ _ [.mk ..]) (.mk ..) [] [] _ _ _ []) rfl (bm_ (d_ (d:=4) (by decide) (wa_ (by decide) hx0)) (.inr rfl) (by assumption)) hn
      ·(refine a_ (T_ hp hn (by first|decide|omega) (by first|decide|omega)) rfl (okP hA) ⟨?_,trivial⟩;intro ws hw;rcases hw with ⟨v,n,rfl,hv,hn⟩)
       have e6:v=0\/v=1\/v=2\/v=3\/v=4\/v=5:=(by omega);rcases e6 with rfl|rfl|rfl|rfl|rfl|rfl;all_goals
        refine VOK_lt rfl rfl (VOK_lt rfl rfl (VOK_lt rfl rfl (uv_ (v1_ _) rfl rfl ?_)))
        (refine a_ (h4 _ _ hn (by decide)) rfl (S_ hA) ⟨?_,trivial⟩;intro ws hw;obtain ⟨⟨op,kd,nm,fd,ad,nn,vk,vi,vf,args⟩,n,rfl,hx,hn⟩:=hw;replace hx:=d_ (e:=5) (by decide) hx)
        exact V_ (x:=.mk _ (.mk _ _ _ _ _ _ _ _ _ []) (.mk ..) [] [] _ _ _ []) rfl (bm_ (sp_ (by decide)) (.inl rfl) (by assumption)) hn))
 ·(
   (refine r_ rfl rfl (λh=>?_) (λh=>?_)<;>rw [o_]at h)
   ·(refine r_ rfl rfl (λh=>?_) (λh=>?_)<;>rw [o_]at h)
    .obtain ⟨e,rfl⟩:∃e,d=e+1:=⟨d-1,by simp at h;omega⟩;have hB:=hB e rfl;refine uv_ (v1_ _) rfl rfl ?_
     (refine a_ (h31 _ _ hn (by first|decide|(simp only [decide_eq_true_eq,decide_eq_false_iff_not]at *; omega))) rfl (S_ hA) ⟨?_,trivial⟩;intro ws hw;obtain ⟨⟨op,kd,nm,fd,ad,nn,vk,vi,vf,args⟩,n,rfl,hx,hn⟩:=hw)
     refine VOK_lt (G_ (z:=(e:Int)) (by omega) (by omega) (by omega)) rfl ?_;refine a_ (hB _ 1 hn (by decide) (by decide)) rfl (okR hA) ⟨?_,trivial⟩;rintro ws ⟨thn,n,rfl,⟨ht,hts⟩,hn⟩;refine uv_ (v1_ _) rfl rfl (uv_ (v1_ _) rfl rfl (uv_ zR_ rfl rfl ?_));refine VOK_lt (sx_ thn (.mk 1 (.mk _ _ _ _ _ _ _ _ _ []) (.mk _ _ _ _ _ _ _ _ _ [.mk _ _ _ _ _ _ _ _ _ [],.mk _ _ _ _ _ _ _ _ _ []]) [] [] _ _ _ []) (by omega)) (okB _) ?_;refine V_ (x:=.mk _ (.mk _ _ _ _ _ _ _ _ _ []) (.mk _ _ _ _ _ _ _ _ _ [.mk _ _ _ _ _ _ _ _ _ [],.mk ..]) (thn++[_]) [] _ _ _ []) rfl (wV_ (.inr rfl) ?_ ?_ (by decide) ?_ (λs hs=>(List.not_mem_nil hs).elim)) hn;exact wb_ (by decide) (v_ (by decide)) (d_ (e:=4) (by decide) hx);rw [List.length_append];simp;omega;intro s hs;rcases List.mem_append.1 hs with hs|hs;exact hts s hs;cases List.mem_singleton.1 hs;exact bm_ (sp_ (by decide)) (.inl rfl) (wb_ (by decide) (v_ (by decide)) (L_ (by unfold X_;omega) (.inl rfl)))
    ·(
      (refine r_ rfl rfl (λh=>?_) (λh=>?_)<;>rw [o_]at h)
      ·(refine a_ (h2 _ _ hn (by decide)) rfl (S_ hA) ⟨?_,trivial⟩;intro ws hw;obtain ⟨⟨op,kd,nm,fd,ad,nn,vk,vi,vf,args⟩,n,rfl,hx,hn⟩:=hw;replace hx:=d_ (e:=5) (by decide) hx);(refine a_ (h2 _ _ hn (by decide)) rfl (S_ hA) ⟨?_,trivial⟩;intro ws hw;obtain ⟨⟨op,kd,nm,fd,ad,nn,vk,vi,vf,args⟩,n,rfl,hx,hn⟩:=hw;replace hx:=d_ (e:=5) (by decide) hx);exact V_ (x:=.mk _ (.mk _ _ _ _ _ _ _ _ _ []) (.mk _ _ _ _ _ _ _ _ _ []) [] [] _ _ _ [.mk ..,.mk ..]) rfl (B_ (by decide) (by simp) (wn_ (by assumption) (by assumption))) hn
      (refine r_ rfl rfl (λh=>?_) (λh=>?_)<;>rw [o_]at h)
      ·(refine a_ (h2 _ _ hn (by decide)) rfl (S_ hA) ⟨?_,trivial⟩;intro ws hw;obtain ⟨⟨op,kd,nm,fd,ad,nn,vk,vi,vf,args⟩,n,rfl,hx,hn⟩:=hw;replace hx:=d_ (e:=5) (by decide) hx);(refine a_ (h31 _ _ hn (by decide)) rfl (S_ hA) ⟨?_,trivial⟩;intro ws hw;obtain ⟨⟨op,kd,nm,fd,ad,nn,vk,vi,vf,args⟩,n,rfl,hx,hn⟩:=hw;replace hx:=d_ (e:=5) (by decide) hx);exact V_ (x:=.mk _ (.mk _ _ _ _ _ _ _ _ _ []) (.mk _ _ _ _ _ _ _ _ _ []) [] [] _ _ _ [.mk ..,.mk ..]) rfl (B_ (by decide) (by simp) (wn_ (by assumption) (by assumption))) hn
      (refine r_ rfl rfl (λh=>?_) (λh=>?_)<;>rw [o_]at h)
      ·(refine a_ (h2 _ _ hn (by decide)) rfl (S_ hA) ⟨?_,trivial⟩;intro ws hw;obtain ⟨⟨op,kd,nm,fd,ad,nn,vk,vi,vf,args⟩,n,rfl,hx,hn⟩:=hw;replace hx:=d_ (e:=5) (by decide) hx);exact V_ (x:=.mk _ (.mk _ _ _ _ _ _ _ _ _ []) (.mk _ _ _ _ _ _ _ _ _ []) [] [] _ _ _ [.mk ..]) rfl (B_ (by decide) (by simp) (xs_ (by assumption))) hn
      (refine r_ rfl rfl (λh=>?_) (λh=>?_)<;>rw [o_]at h)
      ·(refine a_ (h2 _ _ hn (by first|decide|(simp only [decide_eq_true_eq,decide_eq_false_iff_not]at *; omega))) rfl (S_ hA) ⟨?_,trivial⟩;intro ws hw;obtain ⟨⟨op,kd,nm,fd,ad,nn,vk,vi,vf,args⟩,n,rfl,hx,hn⟩:=hw);rename WX _ _=>hx0;(refine a_ (h3 _ _ hn (by decide)) rfl (S_ hA) ⟨?_,trivial⟩;intro ws hw;obtain ⟨⟨op,kd,nm,fd,ad,nn,vk,vi,vf,args⟩,n,rfl,hx,hn⟩:=hw;replace hx:=d_ (e:=5) (by decide) hx)
       exact V_ (x:=.mk _ (.mk _ _ _ _ _ _ _ _ _ [.mk ..]) (.mk ..) [] [] _ _ _ []) rfl (bm_ (d_ (d:=4) (by decide) (wa_ (by decide) hx0)) (.inr rfl) (by assumption)) hn
      ·(refine a_ (T_ hp hn (by first|decide|omega) (by first|decide|omega)) rfl (okP hA) ⟨?_,trivial⟩;intro ws hw;rcases hw with ⟨v,n,rfl,hv,hn⟩)
       have e6:v=0\/v=1\/v=2\/v=3\/v=4\/v=5:=(by omega);rcases e6 with rfl|rfl|rfl|rfl|rfl|rfl;all_goals
        refine VOK_lt rfl rfl (VOK_lt rfl rfl (VOK_lt rfl rfl (uv_ (v1_ _) rfl rfl ?_)))
        (refine a_ (h4 _ _ hn (by decide)) rfl (S_ hA) ⟨?_,trivial⟩;intro ws hw;obtain ⟨⟨op,kd,nm,fd,ad,nn,vk,vi,vf,args⟩,n,rfl,hx,hn⟩:=hw;replace hx:=d_ (e:=5) (by decide) hx)
        exact V_ (x:=.mk _ (.mk _ _ _ _ _ _ _ _ _ []) (.mk ..) [] [] _ _ _ []) rfl (bm_ (sp_ (by decide)) (.inl rfl) (by assumption)) hn)
   ·(
     (refine r_ rfl rfl (λh=>?_) (λh=>?_)<;>rw [o_]at h)
     ·(refine a_ (h2 _ _ hn (by decide)) rfl (S_ hA) ⟨?_,trivial⟩;intro ws hw;obtain ⟨⟨op,kd,nm,fd,ad,nn,vk,vi,vf,args⟩,n,rfl,hx,hn⟩:=hw;replace hx:=d_ (e:=5) (by decide) hx);(refine a_ (h2 _ _ hn (by decide)) rfl (S_ hA) ⟨?_,trivial⟩;intro ws hw;obtain ⟨⟨op,kd,nm,fd,ad,nn,vk,vi,vf,args⟩,n,rfl,hx,hn⟩:=hw;replace hx:=d_ (e:=5) (by decide) hx);exact V_ (x:=.mk _ (.mk _ _ _ _ _ _ _ _ _ []) (.mk _ _ _ _ _ _ _ _ _ []) [] [] _ _ _ [.mk ..,.mk ..]) rfl (B_ (by decide) (by simp) (wn_ (by assumption) (by assumption))) hn
     (refine r_ rfl rfl (λh=>?_) (λh=>?_)<;>rw [o_]at h)
     ·(refine a_ (h2 _ _ hn (by decide)) rfl (S_ hA) ⟨?_,trivial⟩;intro ws hw;obtain ⟨⟨op,kd,nm,fd,ad,nn,vk,vi,vf,args⟩,n,rfl,hx,hn⟩:=hw;replace hx:=d_ (e:=5) (by decide) hx);(refine a_ (h31 _ _ hn (by decide)) rfl (S_ hA) ⟨?_,trivial⟩;intro ws hw;obtain ⟨⟨op,kd,nm,fd,ad,nn,vk,vi,vf,args⟩,n,rfl,hx,hn⟩:=hw;replace hx:=d_ (e:=5) (by decide) hx);exact V_ (x:=.mk _ (.mk _ _ _ _ _ _ _ _ _ []) (.mk _ _ _ _ _ _ _ _ _ []) [] [] _ _ _ [.mk ..,.mk ..]) rfl (B_ (by decide) (by simp) (wn_ (by assumption) (by assumption))) hn
     (refine r_ rfl rfl (λh=>?_) (λh=>?_)<;>rw [o_]at h)
     ·(refine a_ (h2 _ _ hn (by decide)) rfl (S_ hA) ⟨?_,trivial⟩;intro ws hw;obtain ⟨⟨op,kd,nm,fd,ad,nn,vk,vi,vf,args⟩,n,rfl,hx,hn⟩:=hw;replace hx:=d_ (e:=5) (by decide) hx);exact V_ (x:=.mk _ (.mk _ _ _ _ _ _ _ _ _ []) (.mk _ _ _ _ _ _ _ _ _ []) [] [] _ _ _ [.mk ..]) rfl (B_ (by decide) (by simp) (xs_ (by assumption))) hn
     (refine r_ rfl rfl (λh=>?_) (λh=>?_)<;>rw [o_]at h)
     ·(refine a_ (h2 _ _ hn (by first|decide|(simp only [decide_eq_true_eq,decide_eq_false_iff_not]at *; omega))) rfl (S_ hA) ⟨?_,trivial⟩;intro ws hw;obtain ⟨⟨op,kd,nm,fd,ad,nn,vk,vi,vf,args⟩,n,rfl,hx,hn⟩:=hw);rename WX _ _=>hx0;(refine a_ (h3 _ _ hn (by decide)) rfl (S_ hA) ⟨?_,trivial⟩;intro ws hw;obtain ⟨⟨op,kd,nm,fd,ad,nn,vk,vi,vf,args⟩,n,rfl,hx,hn⟩:=hw;replace hx:=d_ (e:=5) (by decide) hx)
      exact V_ (x:=.mk _ (.mk _ _ _ _ _ _ _ _ _ [.mk ..]) (.mk ..) [] [] _ _ _ []) rfl (bm_ (d_ (d:=4) (by decide) (wa_ (by decide) hx0)) (.inr rfl) (by assumption)) hn
     ·(refine a_ (T_ hp hn (by first|decide|omega) (by first|decide|omega)) rfl (okP hA) ⟨?_,trivial⟩;intro ws hw;rcases hw with ⟨v,n,rfl,hv,hn⟩)
      have e6:v=0\/v=1\/v=2\/v=3\/v=4\/v=5:=(by omega);rcases e6 with rfl|rfl|rfl|rfl|rfl|rfl;all_goals
       refine VOK_lt rfl rfl (VOK_lt rfl rfl (VOK_lt rfl rfl (uv_ (v1_ _) rfl rfl ?_)))
       (refine a_ (h4 _ _ hn (by decide)) rfl (S_ hA) ⟨?_,trivial⟩;intro ws hw;obtain ⟨⟨op,kd,nm,fd,ad,nn,vk,vi,vf,args⟩,n,rfl,hx,hn⟩:=hw;replace hx:=d_ (e:=5) (by decide) hx)
       exact V_ (x:=.mk _ (.mk _ _ _ _ _ _ _ _ _ []) (.mk ..) [] [] _ _ _ []) rfl (bm_ (sp_ (by decide)) (.inl rfl) (by assumption)) hn))
theorem p55 {l:List UInt8} {a:AV} (hp:Pk l a) (d:Nat) (hd2:d<=100) (hS:PS l a d):PB l a d:=by
 intro n m hn hm1 hm2;have hA:=hp.1.ok wA_;refine va_ (c:=c55) (n:=300) (t:=t55) mo ov rfl (λY _=>vu_ _) (by kernel_rfl) λY hf hg=>?_;unfold t55
 (refine a_ (T_ hp hn (by first|decide|omega) (by first|decide|omega)) rfl (okP hA) ⟨?_,trivial⟩;intro ws hw;rcases hw with ⟨v,n,rfl,hv,hn⟩)
 refine VOK_lt (p_ (by omega) (by omega)) rfl ?_;refine ux_ (ι:=Nat×List GS×Nat) (λx=>[.int .i64 (x.1:Int),H_ x.2.1,.int .i64 (x.2.2:Int)]) (λx=>x.1+x.2.1.length<=m/\(∀s∈x.2.1,WS (d+1) s)/\x.2.2<=l.length) (λx=>x.1) (v+1,[],n)
  ⟨by simp;omega,λs hs=>(List.not_mem_nil hs).elim,hn⟩ rfl (λx _=>by simp only [okL,okC,okB]) (λx y _ _ h=>by simp at h;omega) (λx hx=>?_)
 obtain ⟨i,ss,n⟩:=x;obtain ⟨h1,h2,hn⟩:=hx;simp only at h1 hn h2⊢
 (refine r_ rfl rfl (λh=>?_) (λh=>?_)<;>rw [o_]at h)
 refine a_ (hS _ hn) rfl (okP hA) ⟨?_,trivial⟩;rintro ws ⟨⟨op,⟨op1,kd1,nm1,fd1,ad1,nn1,vk1,vi1,vf1,args1⟩,⟨op2,kd2,nm2,fd2,ad2,nn2,vk2,vi2,vf2,yA_⟩,thn,els,nm,kd,ad,args⟩,n,rfl,hx,hn⟩;refine VOK_lt (sx_ ss (.mk op (.mk op1 kd1 nm1 fd1 ad1 nn1 vk1 vi1 vf1 args1) (.mk op2 kd2 nm2 fd2 ad2 nn2 vk2 vi2 vf2 yA_) thn els nm kd ad args) (by omega)) (okB _) ?_;obtain ⟨i,rfl⟩:∃e,i=e+1:=⟨i-1,by simp at h;omega⟩;refine VOK_lt (G_ (z:=(i:Int)) (by omega) (by omega) (by omega)) rfl ?_;refine ul_ rfl ⟨(i,ss++[_],n),⟨?_,?_,hn⟩,rfl,by simp⟩;simp;omega;intro s hs;rcases List.mem_append.1 hs with hs|hs;exact h2 s hs;cases List.mem_singleton.1 hs;exact hx;exact VOK_fin (by show okL [H_ ss,.int .i64 (n:Int)]=true;simp only [okL,okC,okB]) ⟨ss,n,rfl,⟨by omega,h2⟩,hn⟩
theorem pS {l:List UInt8} {a:AV} (hp:Pk l a):∀d:Nat,d<=100->PS l a d/\PB l a d
 |0,h=>by have h1:=p98 hp 0 h (λe h=>by omega);exact ⟨h1,p55 hp 0 h h1⟩
 |d+1,h=>by have ih:=pS hp d (by omega);have h1:=p98 hp (d+1) h (λe h=>by cases h;exact ih.2);exact ⟨h1,p55 hp (d+1) h h1⟩
end Go.Proofs.YtelnbodnjmldeaaGreat.vars
