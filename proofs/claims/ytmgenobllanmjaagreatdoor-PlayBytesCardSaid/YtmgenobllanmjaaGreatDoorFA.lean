/-
  A symbol as a number, a number as a value: short names for trees.
-/
import Derived.Test.YtmgenobllanmjaaGreatDoorSyK
import Derived.Test.YtmgenobllanmjaaGreatDoorRows
import Derived.KernelRfl
import Derived.Test.YtmgenobllanmjaaGreatDoorSyE
namespace Go.Proofs.YtmgenobllanmjaaGreatDoor.vars
open Go Go.Sx
instance symN (n:Nat):OfNat AV n:=⟨.sym n⟩
abbrev J (n:Int):AV:=.int .i64 n
abbrev K (o:XOp) (a:List AV) (i:Nat) (t:VT):VT:=.lt o a i none t
abbrev Q0:XOp:=.bin .eql 3 false true
abbrev Li (o:XOp) (a:List AV) (n:Nat) (t:VT):VT:=.lt o a n none t
abbrev It (o:XOp) (a:List AV) (n:Nat) (A B:VT):VT:=.lt o a n none (.ite n A B)
abbrev Iq (i:Nat) (k:Int) (n:Nat) (A B:VT):VT:=.lt Q0 [.sym i,J k] n none (.ite n A B)
abbrev Dn (l:List AV):VT:=.done (.tup (J 0::l))
abbrev Cf (f:FuncId) (t:FT) (h:List AV) (n k:Nat) (b:VT):VT:=.callF f t h n (.cons k b .nil)
abbrev Q1:XOp:=.conv 74 5
abbrev Q2:XOp:=.bin .rem 74 false true
abbrev Q3:XOp:=.bin .quo 74 false true
abbrev Q4:XOp:=.bin .add 3 false true
abbrev Qa:XOp:=.un .not
abbrev Qb:XOp:=.app 1 1
abbrev Qc:XOp:=.len 22
abbrev Qd:XOp:=.bin .lss 3 false false
abbrev Qe:XOp:=.conv 3 74
abbrev Qf:XOp:=.load 9
abbrev Qg:XOp:=.bin .gtr 3 false true
abbrev Qh:XOp:=.conv 3 5
abbrev Qi:XOp:=.bin .lss 3 false true
abbrev Qj:XOp:=.len 42
abbrev Qk:XOp:=.bin .eql 2 false true
abbrev Ql:XOp:=.len 60
abbrev Qm:XOp:=.bin .mul 3 false true
abbrev Qn:XOp:=.bin .geq 3 false true
abbrev Qo:XOp:=.iaddr 60
abbrev Qp:XOp:=.bin .sub 3 false true
abbrev Qq:XOp:=.len 23
abbrev Qr:XOp:=.conv 2 74
abbrev Qs:XOp:=.bin .eql 2 false false
abbrev Qt:XOp:=.iaddr 23
abbrev Qu:XOp:=.bin .neq 3 false false
abbrev Qv:XOp:=.load 29
abbrev Qw:XOp:=.slc 22 false true
abbrev Qx:XOp:=.iaddr 42
abbrev Qy:XOp:=.bin .eql 3 false false
abbrev Qz:XOp:=.iaddr 22
abbrev Z0:XOp:=.load 5
abbrev Z1:XOp:=.bin .sub 3 false false
abbrev Z2:XOp:=.load 27
abbrev Z3:XOp:=.len 377
abbrev Z4:XOp:=.conv 22 9
abbrev Z5:XOp:=.load 22
abbrev Z6:XOp:=.len 98
abbrev Z7:XOp:=.iaddr 98
abbrev Z8:XOp:=.len 9
abbrev Z9:XOp:=.bin .eql 43 false true
abbrev Za:XOp:=.app 7 72
abbrev Zb:XOp:=.bin .neq 74 false true
abbrev Zd:XOp:=.bin .eql 9 false false
abbrev Ze:XOp:=.iaddr 377
abbrev Zf:XOp:=.load 342
abbrev Zg:XOp:=.mkx 1 1 [.int .u8 0]
abbrev Zh:XOp:=.bin .gtr 3 false false
abbrev Zi:XOp:=.slc 22 true false
abbrev Zj:XOp:=.bin .mul 3 true false
abbrev Zk:XOp:=.conv 2 128
abbrev Zl:XOp:=.conv 128 2
abbrev Zm:XOp:=.conv 2 21
abbrev Zn:XOp:=.conv 21 2
abbrev Zo:XOp:=.app 3 24
abbrev Zp:XOp:=.load 3
abbrev Zq:XOp:=.bin .geq 2 false false
abbrev Zr:XOp:=.bin .sub 2 false false
abbrev Zs:XOp:=.conv 74 3
abbrev Zt:XOp:=.bin .leq 3 false true
abbrev Zu:XOp:=.app 1 16
abbrev Zw:XOp:=.app 4 64
abbrev Zx:XOp:=.bin .geq 3 false false
abbrev Zy:XOp:=.bin .xor 122 false false
abbrev Zz:XOp:=.bin .lss 2 false true
abbrev U0:XOp:=.iaddr 64
abbrev U1:XOp:=.bin .shl 2 false true
abbrev U3:XOp:=.bin .or 2 false false
abbrev U4:XOp:=.bin .shr 2 false false
abbrev U6:XOp:=.bin .add 3 false false
abbrev U7:XOp:=.mkz 1 1 [.int .u8 0]
abbrev U8:XOp:=.bin .neq 25 false false
abbrev Ug:XOp:=.bin .neq 43 false true
abbrev Uj:XOp:=.bin .eql 74 false true
abbrev Uk:XOp:=.bin .eql 74 false false
abbrev Ul:XOp:=.bin .mul 74 false true
abbrev Un:XOp:=.bin .add 74 false false
abbrev Uo:XOp:=.bin .neq 2 false true
abbrev Up:XOp:=.bin .rem 2 false false
abbrev Uq:XOp:=.bin .add 2 false false
abbrev Us:XOp:=.bin .quo 122 false true
end Go.Proofs.YtmgenobllanmjaaGreatDoor.vars
set_option linter.unusedVariables false
namespace Go.Proofs.YtmgenobllanmjaaGreatDoor.vars
open Go Go.Sx
def hs:Nat->Nat->List AV
 |_,0=>[]
 |j,n+1=>.slx j 0 0::hs (j+1) n
def pk (a b:AV):Nat×List AV:=(0,[a,b])
def rd (a b:AV):Nat×List AV:=(0,[a,b])
def ftNum:FT:=⟨1,⟨[(0,.ptr 0 0),(1,.slx 2 0 0)],[rd (.slx 0 0 0) (.slx 1 0 0)],1,3,[],[],[]⟩,[(false,⟨[(0,.slx 0 0 0)],[rd (.slx 1 0 0) (.slx 2 0 0)],1,3,[],[],[]⟩)]⟩
def ftVal:FT:=⟨1,⟨[(0,.ptr 0 0)],[rd (.slx 0 0 0) (.slx 1 0 0)],1,2,[],[],[]⟩,[(false,⟨[(0,.agg (hs 0 3))],[rd (.slx 3 0 0) (.slx 4 0 0)],1,5,[],[],[]⟩)]⟩
def v1_:FT:=ftNum
def yy_:FT:=ftNum
def zT_:FT:=ftVal
end Go.Proofs.YtmgenobllanmjaaGreatDoor.vars
set_option maxRecDepth 100000
set_option linter.unusedVariables false
set_option linter.unusedSimpArgs false
namespace Go.Proofs.YtmgenobllanmjaaGreatDoor.vars
open Go Go.Sx
instance gI:Gl:=eN_ 1 []
theorem mo:Tryz.prog.follows .mixedOrders=true:=by kernel_rfl
theorem ov:j0_ Tryz.prog:=wh_ 1 _
theorem m_ {P:Program} {Q:AV->Prop} {L:List (Nat->List AV->Prop)} {Y:Sy} {f:FuncId} {ft:FT} {hv vs:List AV} {n:Nat} {bs:VTs} {R:Nat->List AV->Prop} (h1:CF P f ft vs R) (h0:ab_ Y.v hv=vs) (h2:okL vs=true) (h3:sX_ P Q R L (Y.puts n vs) (Nat.add n ft.ent.nv) 0 bs):VOK P Q L Y (.callF f ft hv n bs):=by subst h0;exact vn_ h1 h2 h3
theorem dT {p:Prop} [Decidable p] (h:decide p=true):p:=of_decide_eq_true h
theorem dF {p:Prop} [Decidable p] (h:decide p=false):¬p:=of_decide_eq_false h
theorem R_ {x y:Int} {t:TypeId} {cx cy:Bool} (h1: -9223372036854775807<=x+y) (h2:x+y<=9223372036854775807):(XOp.bin .add t cx cy).run Tryz.prog [.int .i64 x,.int .i64 y]=some (.int .i64 (x+y)):=by rw [run_add,wK_ (by omega) (by omega)]
theorem BD_ {α:Type} {enc:α->List AV} {w b:Nat} (hw:∀a,(enc a).length=w) (hwp:0<w) (hb:0<b) {l:List α} {x:AV} (h:SlV enc w l x) (hl:l.length*b<=1073741824):(XOp.app w b).run Tryz.prog [.vsl 0 w [],x]=some (jW_ enc w l):=by
 have ha:by_ w x=some (l.length,a9_ enc l):=h.arg hw;show (match by_ w x with|some (n,l')=>iA_ w b (.vsl 0 w []) n l'|none=>none)=_;rw [ha];show iA_ w b (.vsl 0 w []) l.length (a9_ enc l)=_;have h1:(a9_ enc l).length=l.length*w:=bw_ hw l;have hl1:l.length<=1073741824:=Nat.le_trans (Nat.le_mul_of_pos_right _ hb) hl;unfold iA_;simp only [h1,decide_true,List.length_nil,Nat.zero_mul,and_self];cases l with
 |nil=>rfl
 |cons c r=>have c1:(Nat.ble (Nat.mul (Nat.add 0 (r.length+1)) b) 1073741824&&Nat.ble (Nat.add 0 (r.length+1)) 1073741824&&Nat.blt 0 b)=true:=(by have e:Nat.mul (Nat.add 0 (r.length+1)) b=(r.length+1)*b:=(by show (0+(r.length+1))*b=_;rw [Nat.zero_add]);have e2:Nat.add 0 (r.length+1)=r.length+1:=Nat.zero_add _;have e3:Nat.blt 0 b=true:=(by rw [Nat.blt_eq];exact hb);rw [e,e2,e3,Nat.ble_eq_true_of_le (show (r.length+1)*b<=1073741824 from hl),Nat.ble_eq_true_of_le (show r.length+1<=1073741824 from hl1)];rfl);simp only [List.length_cons,c1];show some (AV.vsl (Nat.add 0 (r.length+1)) w ([]++a9_ enc (c::r)))=_;rw [show Nat.add 0 (r.length+1)=r.length+1 from Nat.zero_add _,List.nil_append];rfl
structure FV where
 k:Int
 i:Int
 f:Option Nat
def fv:Option Nat->AV
 |some n=>.flt .f64 n
 |none=>.nan .f64
theorem wO_ (o:Option Nat):okC (fv o)=true:=by cases o<;>rfl
def FV.z:FV:=⟨0,0,some 0⟩
def u_ (v:FV):List AV:=[.int .i64 v.k,.int .i64 v.i,fv v.f]
theorem zh_ (v:FV):(u_ v).length=3:=rfl
theorem okV (v:FV):okL (u_ v)=true:=by simp only [u_,okL,okC,wO_]
def u8_ (s:List UInt8):List AV:=[.str s]
theorem zZ_ (s:List UInt8):(u8_ s).length=1:=rfl
theorem okP (s:List UInt8):okL (u8_ s)=true:=rfl
def a_ (c:UInt8):List AV:=[.int .u8 (c.toNat:Int)]
theorem ev_ (c:UInt8):(a_ c).length=1:=rfl
theorem c_ (c:UInt8):okL (a_ c)=true:=rfl
def yv_ (n:Int):List AV:=[.int .i64 n]
theorem B4_ (n:Int):(yv_ n).length=1:=rfl
theorem okI (n:Int):okL (yv_ n)=true:=rfl
structure SV {α:Type} (enc:α->List AV) (w:Nat) where
 l:List α
 x:AV
 h:SlV enc w l x
def SV.nil {α:Type} {enc:α->List AV} {w:Nat}:SV enc w:=⟨[],.nsl,.inr ⟨rfl,rfl⟩⟩
def SV.of {α:Type} {enc:α->List AV} {w:Nat} (l:List α):SV enc w:=⟨l,bb_ enc w l,SlV.of l⟩
def SV.v {α:Type} {enc:α->List AV} {w:Nat} (l:List α):SV enc w:=⟨l,jW_ enc w l,SlV.v l⟩
theorem SV.ok {α:Type} {enc:α->List AV} {w:Nat} (s:SV enc w) (h:∀a,okL (enc a)=true):okC s.x=true:=s.h.ok h
structure GM where
 kind:Int
 id:Int
 err:Int
 n:Int
 seq:Int
 lost:Bool
 every:Int
 band:FV
 paths:SV u8_ 1
 vals:SV u_ 3
def Q_ (m:GM):List AV:=[.int .i64 m.kind,.int .i64 m.id,.int .i64 m.err,.int .i64 m.n,.int .i64 m.seq,.bool m.lost,.int .i64 m.every,.int .i64 m.band.k,.int .i64 m.band.i,fv m.band.f,m.paths.x,m.vals.x]
theorem okM (m:GM):okL (Q_ m)=true:=by simp only [Q_,okL,okC,wO_,m.paths.ok okP,m.vals.ok okV]
def GM.Sm (m:GM):Prop:=m.paths.l.length<=1000/\m.vals.l.length<=1000
structure GT where
 seq:Int
 v:FV
 lost:Bool
def BU_ (t:GT):List AV:=[.int .i64 t.seq,.int .i64 t.v.k,.int .i64 t.v.i,fv t.v.f,.bool t.lost]
structure GW where
 num:Int
 addr:Int
 every:Int
 due:Int
 band:FV
 most:Int
 has:Bool
 lost:Bool
 last:FV
 seq:Int
 queue:SV BU_ 5
end Go.Proofs.YtmgenobllanmjaaGreatDoor.vars
set_option maxRecDepth 100000
set_option linter.unusedVariables false
set_option linter.unusedSimpArgs false
namespace Go.Proofs.YtmgenobllanmjaaGreatDoor.vars
open Go Go.Sx
def c35:VC:=⟨⟨[],[]⟩,[],[],0,true,[]⟩
def t35:VT:=It (.bin .eql 22 false true) [64,.nsl] 65 (.done (.nsl))<|Li Qb [.vsl 0 1 [],64] 66<|.done (66)
theorem p35 (s:SV a_ 1) (hl:s.l.length<=1000000):iu_ Tryz.prog 35 [s.x] s.x:=by obtain ⟨l,x,h⟩:=s;have hx:=h.ok c_;simp only at hl⊢;refine uW_ (sh:=[none]) (ls:=[x]) (c:=c35) (n:=300) (t:=t35) mo ov (by rcases h with rfl|⟨_,rfl⟩<;>rfl) (by simp only [okL,hx]) (qB_ hx) (λY _=>wB_ _) rfl (by kernel_rfl) λY hf hg=>?_;unfold t35;rcases h with rfl|⟨_,rfl⟩;refine wt_ (r:=.bool false) (by kernel_rfl) rfl (v8_ (t:=false) rfl (λh=>by cases h) (λ_=>?_));exact wt_ (BD_ ev_ (by decide) (by decide) (SlV.v (enc:=a_) (w:=1) l) (by omega)) (sQ_ c_ _) (vz_ rfl);exact wt_ (r:=.bool true) (by kernel_rfl) rfl (v8_ (t:=true) rfl (λ_=>vz_ rfl) (λh=>by cases h))
theorem p7_ {α:Type} {l:List α} {i:Nat} (h:i<l.length):l.take (i+1)=l.take i++[l[i]]:=by rw [List.take_add_one,List.getElem?_eq_getElem h];rfl
end Go.Proofs.YtmgenobllanmjaaGreatDoor.vars
set_option linter.unusedVariables false
namespace Go.Proofs.YtmgenobllanmjaaGreatDoor.vars
def r_:Nat->List UInt8->Nat
 |v,[]=>v
 |v,c::r=>r_ (v*256+c.toNat) r
def d_ (v:Int):Nat->List UInt8
 |0=>[]
 |n+1=>UInt8.ofNat ((v/(256^n:Nat))%256).toNat::d_ v n
structure PV where
 k:Nat
 i:Int
 f:Nat
structure PS where
 k:Nat
 a:UInt8
 n:Nat
 b:Option (List UInt8)
 v:PV
def v0:PV:=⟨0,0,0⟩
def nan (u:Nat):Bool:=decide (9218868437227405312<u%9223372036854775808)
def L_ (n:Nat) (m:Nat):Int:=if n<m then (n:Int)else (n:Int)-2*m
def t_ (k:Nat):Nat:=match k with
 |1=>1
 |2=>2
 |3=>4
 |4=>8
 |5=>8
 |_=>0
def xj_ (k u:Nat):PV:=match k with
 |1=>⟨1,u,0⟩
 |2=>⟨2,L_ u 32768,0⟩
 |3=>⟨3,L_ u 2147483648,0⟩
 |4=>⟨4,L_ u 9223372036854775808,0⟩
 |5=>⟨5,0,u⟩
 |k=>⟨k,0,0⟩
def okN (k u:Nat):Bool:=match k with
 |1=>decide (u<=1)
 |2=>true
 |3=>true
 |4=>true
 |5=> !nan u||decide (u=9221120237041090561)
 |_=>false
def G_:List UInt8->Option (PV×List UInt8)
 |[]=>none
 |k::r=>if t_ k.toNat<=r.length/\okN k.toNat (r_ 0 (r.take (t_ k.toNat)))=true then some (xj_ k.toNat (r_ 0 (r.take (t_ k.toNat))),r.drop (t_ k.toNat))else none
def x_ (k:Nat) (a:UInt8) (r:List UInt8):Option (PS×List UInt8):=
 if k=3 then
  if 2<=r.length/\r_ 0 (r.take 2)<=(r.drop 2).length then some (⟨3,a,0,some ((r.drop 2).take (r_ 0 (r.take 2))),v0⟩,(r.drop 2).drop (r_ 0 (r.take 2)))else none
 else if k=6 then
  if 4<=r.length then some (⟨6,a,r_ 0 (r.take 4),none,v0⟩,r.drop 4)else none
 else if k=8 then
  match G_ r with
  |some (v,r')=>some (⟨8,a,0,none,v⟩,r')
  |none=>none
 else some (⟨k,a,0,none,v0⟩,r)
theorem y3_ {l r:List UInt8} {v:PV} (h:G_ l=some (v,r)):r.length<l.length:=by
 cases l with
 |nil=>cases h
 |cons k l=>
  have h:(if t_ k.toNat<=l.length/\okN k.toNat (r_ 0 (l.take (t_ k.toNat)))=true then some (xj_ k.toNat (r_ 0 (l.take (t_ k.toNat))),l.drop (t_ k.toNat))else none)=some (v,r):=h;split at h
  .injection h with h
   injection h with _ h
   rw [←h,List.length_drop,List.length_cons];omega
  cases h
theorem wc_ {k:Nat} {a:UInt8} {l r:List UInt8} {s:PS} (h:x_ k a l=some (s,r)):r.length<=l.length:=by
 unfold x_ at h;split at h
 .split at h
  .injection h with h
   injection h with _ h
   rw [←h,List.length_drop,List.length_drop];omega
  cases h
 split at h
 .split at h
  .injection h with h
   injection h with _ h
   rw [←h,List.length_drop];omega
  cases h
 split at h;split at h;rename_i hv;cases h;have:=y3_ hv;omega;cases h;cases h;omega
def k_:List UInt8->List PS
 |[]=>[]
 |k::r=>if k.toNat%9=0 then k_ r else match r with
  |[]=>[]
  |a::r=>match h:x_ (k.toNat%9) a r with
   |none=>[]
   |some (s,r')=>s::k_ r'
termination_by l=>l.length
decreasing_by
 simp;have:=wc_ h;simp;omega
def w_ (v:PV):List UInt8:=UInt8.ofNat v.k::d_ (if v.k=5 then (if nan v.f then 9221120237041090561 else (v.f:Int))else v.i) (t_ v.k)
def sW_ (s:PS):List UInt8:=
 if s.k=3 then d_ ((s.b.getD []).length:Int) 2++s.b.getD []
 else if s.k=6 then d_ s.n 4
 else if s.k=8 then w_ s.v
 else []
def aI_ (s:PS):List UInt8:=UInt8.ofNat s.k::s.a::sW_ s
def VOk (v:PV):Prop:=∃u,u<256^t_ v.k/\okN v.k u=true/\v=xj_ v.k u
structure SOk (s:PS):Prop where
 k:1<=s.k/\s.k<=8
 n:if s.k=6 then s.n<4294967296 else s.n=0
 b:if s.k=3 then ∃l,s.b=some l/\l.length<65536 else s.b=none
 v:if s.k=8 then VOk s.v else s.v=v0
theorem vh_:∀(l:List UInt8) (v:Nat),r_ v l=v*256^l.length+r_ 0 l
 |[],v=>by simp [r_]
 |c::r,v=>by simp only [r_,List.length_cons];rw [vh_ r (v*256+c.toNat),vh_ r (0*256+c.toNat),Nat.pow_succ,Nat.add_mul,Nat.zero_mul,Nat.zero_add,Nat.mul_assoc,Nat.mul_comm 256 (256^r.length)];omega
theorem F_:∀(l:List UInt8),r_ 0 l<256^l.length
 |[]=>by simp [r_]
 |c::r=>by have:=F_ r;have hc:=UInt8.toNat_lt c;simp only [r_,List.length_cons];rw [vh_,Nat.pow_succ,Nat.zero_mul,Nat.zero_add];have:c.toNat*256^r.length<=255*256^r.length:=Nat.mul_le_mul_right _ (by omega);omega
theorem b_ (v:Int):∀n,(d_ v n).length=n
 |0=>rfl
 |n+1=>by simp [d_,b_ v n]
theorem h4_ {x:Int} (h0:0<=x) (h1:x<256):((UInt8.ofNat x.toNat).toNat:Int)=x:=by rw [UInt8.toNat_ofNat',Nat.mod_eq_of_lt (by omega),Int.toNat_of_nonneg h0]
theorem ya_ (v P:Int) (hP:0<P):v%(P*256)=v%P+P*((v/P)%256):=by
 have h1:=Int.emod_add_mul_ediv v P;have h2:=Int.emod_add_mul_ediv (v/P) 256;have h3:=Int.emod_nonneg v (show P≠0 by omega);have h4:=Int.emod_lt_of_pos v hP;have h5:=Int.emod_nonneg (v/P) (show (256:Int)≠0 by decide);have h6:=Int.emod_lt_of_pos (v/P) (show (0:Int)<256 by decide);have e:v=(v%P+P*((v/P)%256))+(P*256)*((v/P)/256):=by have:P*(v/P)=P*((v/P)%256)+P*256*((v/P)/256):=(by rw [Int.mul_assoc,←Int.mul_add,h2]);omega
 have hle:P*((v/P)%256)<=P*255:=Int.mul_le_mul_of_nonneg_left (by omega) (by omega);have hge:0<=P*((v/P)%256):=Int.mul_nonneg (by omega) h5;have hlt:v%P+P*((v/P)%256)<P*256:=by omega
 conv=>lhs;rw [e]
 rw [Int.add_mul_emod_self_left,Int.emod_eq_of_lt (by omega) hlt]
theorem Y_ (v:Int):∀n,(r_ 0 (d_ v n):Int)=v%(256^n:Nat)
 |0=>by simp [d_,r_]
 |n+1=>by have ih:=Y_ v n;have h0:0<=(v/(256^n:Nat))%256:=Int.emod_nonneg _ (by decide);have h1:(v/(256^n:Nat))%256<256:=Int.emod_lt_of_pos _ (by decide);show ((r_ (0*256+(UInt8.ofNat ((v/(256^n:Nat))%256).toNat).toNat) (d_ v n):Nat):Int)=_;rw [vh_,b_,Nat.zero_mul,Nat.zero_add,Int.natCast_add,Int.natCast_mul,h4_ h0 h1,ih,Nat.pow_succ,Int.natCast_mul];have hP:0<((256^n:Nat):Int):=(by have:=Nat.pow_pos (n:=n) (show 0<256 by decide);omega);rw [show ((256:Nat):Int)=256 from rfl,ya_ v _ hP,Int.mul_comm (v/_%256)];omega
theorem oZ_:∀(l:List UInt8) (v:Int) (q:Int),v=(r_ 0 l:Int)+q*(256^l.length:Nat)->d_ v l.length=l
 |[],v,q,h=>rfl
 |c::r,v,q,h=>by
  have hc:=UInt8.toNat_lt c;have hr:=F_ r;have hP:0<((256^r.length:Nat):Int):=(by have:=Nat.pow_pos (n:=r.length) (show 0<256 by decide);omega);have e:v=(r_ 0 r:Int)+((256^r.length:Nat):Int)*((c.toNat:Int)+256*q):=(by rw [h];show ((r_ (0*256+c.toNat) r:Nat):Int)+q*((256^(r.length+1):Nat):Int)=_;rw [vh_,Nat.zero_mul,Nat.zero_add,Nat.pow_succ,Int.natCast_add,Int.natCast_mul,Int.natCast_mul,Int.mul_add];rw [show ((256:Nat):Int)=256 from rfl,Int.mul_comm (c.toNat:Int),Int.mul_comm q,Int.mul_assoc];omega);have hd:v/((256^r.length:Nat):Int)=(c.toNat:Int)+256*q:=(by rw [e,Int.add_mul_ediv_left _ _ (by omega),Int.ediv_eq_zero_of_lt (by omega) (by omega),Int.zero_add]);show UInt8.ofNat ((v/((256^r.length:Nat):Int))%256).toNat::d_ v r.length=c::r;rw [hd,oZ_ r v ((c.toNat:Int)+256*q) (by rw [e,Int.mul_comm])]
  congr 1
  rw [Int.add_mul_emod_self_left,Int.emod_eq_of_lt (by omega) (by omega)];simp
theorem vr_ {α:Type} {n:Nat} {l r:List α} (h:l.length=n):(l++r).take n=l:=by rw [←h,List.take_left]
theorem l4_ {α:Type} {n:Nat} {l r:List α} (h:l.length=n):(l++r).drop n=r:=by rw [←h,List.drop_left]
theorem ps_ {k:Nat} (h:k<256):(UInt8.ofNat k).toNat=k:=by rw [UInt8.toNat_ofNat',Nat.mod_eq_of_lt h]
def p_ (v:PV):Int:=if v.k=5 then (if nan v.f then 9221120237041090561 else (v.f:Int))else v.i
theorem Ad_ (k u:Nat):(xj_ k u).k=k:=by unfold xj_;split<;>rfl
theorem kinds {k u:Nat} (h:okN k u=true):k=1\/k=2\/k=3\/k=4\/k=5:=by unfold okN at h;split at h<;>simp_all
theorem xY_ {k u:Nat} (hu:u<256^t_ k) (h:okN k u=true):∃q:Int,p_ (xj_ k u)=(u:Int)+q*((256^t_ k:Nat):Int):=by
 have sg:∀m:Nat,∃q:Int,L_ u m=(u:Int)+q*((2*m:Nat):Int):=λm=>by unfold L_;split;exact ⟨0,by omega⟩;exact ⟨-1,by omega⟩
 rcases kinds h with rfl|rfl|rfl|rfl|rfl;exact ⟨0,by show (u:Int)=_;omega⟩;exact sg 32768;exact sg 2147483648;exact sg 9223372036854775808
 .refine ⟨0,?_⟩;show (if nan u=true then (9221120237041090561:Int)else (u:Int))=_;have h:(!nan u||decide (u=9221120237041090561))=true:=h;cases hn:nan u with
  |false=>rw [if_neg (by decide)];omega
  |true=>rw [hn]at h;have:u=9221120237041090561:=(by simpa using h);rw [if_pos rfl];omega
theorem am_ (v:PV):w_ v=UInt8.ofNat v.k::d_ (p_ v) (t_ v.k):=rfl
theorem N_ (k:UInt8) (r:List UInt8):G_ (k::r)=if t_ k.toNat<=r.length/\okN k.toNat (r_ 0 (r.take (t_ k.toNat)))=true then some (xj_ k.toNat (r_ 0 (r.take (t_ k.toNat))),r.drop (t_ k.toNat))else none:=rfl
theorem yo_ {v:PV} (h:VOk v) (r:List UInt8):G_ (w_ v++r)=some (v,r):=by
 obtain ⟨u,hu,hok,hv⟩:=h;obtain ⟨q,hq⟩:=xY_ hu hok;have hk:(UInt8.ofNat v.k).toNat=v.k:=ps_ (by rcases kinds hok with h|h|h|h|h<;>omega);have hl:=b_ (p_ v) (t_ v.k);rw [←hv]at hq;have hn:r_ 0 (d_ (p_ v) (t_ v.k))=u:=by have h1:=(Y_ (p_ v) (t_ v.k)).trans (congrArg (· %((256^t_ v.k:Nat):Int)) hq);have h2:((u:Int)+q*((256^t_ v.k:Nat):Int))%((256^t_ v.k:Nat):Int)=u:=(by rw [Int.add_mul_emod_self_right,Int.emod_eq_of_lt (by omega) (by omega)]);have h3:(r_ 0 (d_ (p_ v) (t_ v.k)):Int)=u:=h1.trans h2;omega
 rw [am_,List.cons_append,N_,hk,vr_ hl,l4_ hl,hn,if_pos ⟨by rw [List.length_append,hl];omega,hok⟩,←hv]
theorem x6_ {l r:List UInt8} {v:PV} (h:G_ l=some (v,r)):VOk v/\l=w_ v++r:=by
 cases l with
 |nil=>cases h
 |cons k l=>
  rw [N_]at h;split at h
  .rename_i hc;obtain ⟨hle,hok⟩:=hc;injection h with h
   injection h with h1 h2
   have hlen:(l.take (t_ k.toNat)).length=t_ k.toNat:=(by rw [List.length_take];omega);have hlt:=F_ (l.take (t_ k.toNat));rw [hlen]at hlt;have hkv:v.k=k.toNat:=(by rw [←h1,Ad_]);refine ⟨⟨_,by rw [hkv];exact hlt,by rw [hkv];exact hok,by rw [hkv];exact h1.symm⟩,?_⟩;obtain ⟨q,hq⟩:=xY_ hlt hok;rw [h1]at hq;have hb:=oZ_ (l.take (t_ k.toNat)) (p_ v) q (by rw [hlen];exact hq);rw [hlen]at hb;rw [am_,hkv,hb,List.cons_append,←h2,List.take_append_drop];simp
  cases h
theorem B7_ {n:Nat} (h:n<65536):r_ 0 (d_ (n:Int) 2)=n:=by have:=Y_ (n:Int) 2;rw [Int.emod_eq_of_lt (by omega) (by omega)]at this;omega
theorem B8_ {n:Nat} (h:n<4294967296):r_ 0 (d_ (n:Int) 4)=n:=by have:=Y_ (n:Int) 4;rw [Int.emod_eq_of_lt (by omega) (by omega)]at this;omega
theorem xQ_ {s:PS} (h:SOk s) (r:List UInt8):x_ s.k s.a (sW_ s++r)=some (s,r):=by obtain ⟨k,a,n,b,v⟩:=s;obtain ⟨hk,hn,hb,hv⟩:=h;unfold x_ sW_;simp only at hk hn hb hv⊢;by_cases h3:k=3;subst h3;simp only [if_true,Nat.reduceEqDiff,if_false]at hn hb hv⊢;obtain ⟨l,rfl,hl⟩:=hb;subst hn hv;have h2:=b_ (l.length:Int) 2;simp only [Option.getD_some,List.append_assoc];rw [vr_ h2,l4_ h2,B7_ hl,if_pos ⟨by simp only [List.length_append,h2];omega,by simp only [List.length_append];omega⟩,vr_ rfl,l4_ rfl];by_cases h6:k=6;subst h6;simp only [if_true,Nat.reduceEqDiff,if_false]at hn hb hv⊢;subst hb hv;have h4:=b_ (n:Int) 4;rw [vr_ h4,l4_ h4,B8_ hn,if_pos (by simp only [List.length_append,h4];omega)];by_cases h8:k=8;subst h8;simp only [if_true,Nat.reduceEqDiff,if_false]at hn hb hv⊢;subst hb hn;rw [yo_ hv];simp only [h3,h6,h8,if_false]at hn hb hv⊢;subst hb hn hv;rfl
theorem yY_ {k:Nat} {a:UInt8} {l r:List UInt8} {s:PS} (hk:1<=k/\k<=8) (h:x_ k a l=some (s,r)):SOk s/\s.k=k/\s.a=a/\l=sW_ s++r:=by
 unfold x_ at h;by_cases h3:k=3
 .subst h3;simp only [if_true]at h;split at h
  .rename_i hc;injection h with h
   injection h with h1 h2
   subst h1;have ht:(l.take 2).length=2:=(by rw [List.length_take];omega);have hlt:=F_ (l.take 2);rw [ht]at hlt;have hl:((l.drop 2).take (r_ 0 (l.take 2))).length=r_ 0 (l.take 2):=(by rw [List.length_take];omega);refine ⟨⟨⟨(by decide:1<=3),(by decide:3<=8)⟩,rfl,⟨_,rfl,by rw [hl];omega⟩,rfl⟩,rfl,rfl,?_⟩;show l=d_ ((((l.drop 2).take (r_ 0 (l.take 2)))).length:Int) 2++(l.drop 2).take (r_ 0 (l.take 2))++r;have hb:=oZ_ (l.take 2) (r_ 0 (l.take 2):Int) 0 (by omega);rw [ht]at hb;rw [hl,hb,←h2,List.append_assoc,List.take_append_drop,List.take_append_drop]
  cases h
 by_cases h6:k=6
 .subst h6;simp only [if_true,Nat.reduceEqDiff,if_false]at h;split at h
  .rename_i hc;injection h with h
   injection h with h1 h2
   subst h1;have ht:(l.take 4).length=4:=(by rw [List.length_take];omega);have hlt:=F_ (l.take 4);rw [ht]at hlt;refine ⟨⟨⟨(by decide:1<=6),(by decide:6<=8)⟩,by show r_ 0 (l.take 4)<4294967296;omega,rfl,rfl⟩,rfl,rfl,?_⟩;show l=d_ (r_ 0 (l.take 4):Int) 4++r;have hb:=oZ_ (l.take 4) (r_ 0 (l.take 4):Int) 0 (by omega);rw [ht]at hb;rw [hb,←h2,List.take_append_drop]
  cases h
 by_cases h8:k=8
 .subst h8;simp only [if_true,Nat.reduceEqDiff,if_false]at h;split at h
  .rename_i v r' hv;injection h with h
   injection h with h1 h2
   subst h1 h2;obtain ⟨g1,g2⟩:=x6_ hv;exact ⟨⟨⟨(by decide:1<=8),(by decide:8<=8)⟩,rfl,rfl,g1⟩,rfl,rfl,g2⟩
  cases h
 .simp only [h3,h6,h8,if_false]at h;injection h with h
  injection h with h1 h2
  subst h1 h2;refine ⟨⟨hk,by simp only [h6,if_false],by simp only [h3,if_false],by simp only [h8,if_false]⟩,rfl,rfl,?_⟩;unfold sW_;simp only [h3,h6,h8,if_false,List.nil_append]
theorem w0_ {k:UInt8} {r:List UInt8} (h:k.toNat%9=0):k_ (k::r)=k_ r:=by rw [k_.eq_def];simp only [h,if_true]
theorem xu_ {k:UInt8} (h:k.toNat%9≠0):k_ [k]=[]:=by rw [k_.eq_def];simp only [h,if_false]
theorem vG_ {k a:UInt8} {r:List UInt8} (h:k.toNat%9≠0):k_ (k::a::r)=match x_ (k.toNat%9) a r with
  |none=>[]
  |some (s,r')=>s::k_ r':=by
 rw [k_.eq_def];simp only [h,if_false];split<;>rename_i he<;>simp only [he]
theorem xt_ {s:PS} (h:SOk s) (r:List UInt8):k_ (aI_ s++r)=s::k_ r:=by
 have hk:=h.k;have e:(UInt8.ofNat s.k).toNat%9=s.k:=by rw [ps_ (by omega)];omega
 show k_ (UInt8.ofNat s.k::s.a::(sW_ s++r))=_;rw [vG_ (by rw [e];omega),e,xQ_ h]
def wo_ (l:List PS):List UInt8:=l.flatMap aI_
theorem wZ_:∀(l:List PS) (r:List UInt8),(∀s∈l,SOk s)->k_ (wo_ l++r)=l++k_ r
 |[],r,_=>rfl
 |s::l,r,h=>by show k_ ((aI_ s++wo_ l)++r)=_;rw [List.append_assoc,xt_ (h s (List.mem_cons_self ..)),wZ_ l r λt ht=>h t (List.mem_cons_of_mem _ ht)];rfl
theorem h5_:k_ []=[]:=by rw [k_.eq_def]
theorem xL_ {s:PS} (h:SOk s):k_ (aI_ s)=[s]:=by
 have:=xt_ h []
 rwa [List.append_nil,h5_]at this
theorem yc_ {s:PS} {l r:List UInt8} {k a:UInt8} (h:x_ (k.toNat%9) a l=some (s,r)) (hk:k.toNat%9≠0):(aI_ s).length+r.length=l.length+2:=by obtain ⟨_,_,_,h4⟩:=yY_ (by omega) h;have:=congrArg List.length h4;rw [List.length_append]at this;show (sW_ s).length+1+1+r.length=_;omega
theorem wI_:∀(n:Nat) (l:List UInt8),l.length<=n->(wo_ (k_ l)).length<=l.length
 |_,[],_=>by rw [h5_];exact Nat.le_refl _
 |0,_::_,h=>by simp at h
 |n+1,k::l,h=>by
  have h:l.length<=n:=(by simpa using h);by_cases hk:k.toNat%9=0;rw [w0_ hk];have:=wI_ n l h;simp;omega;cases l with
  |nil=>rw [xu_ hk];simp [wo_]
  |cons a l=>
   rw [vG_ hk];cases hd:x_ (k.toNat%9) a l with
   |none=>simp [wo_]
   |some p=>obtain ⟨t,r⟩:=p;have h1:=yc_ hd hk;have hr:=wc_ hd;have h2:=wI_ n r (by simp at h;omega);show (aI_ t++wo_ (k_ r)).length<=_;rw [List.length_append];simp;omega
end Go.Proofs.YtmgenobllanmjaaGreatDoor.vars
set_option maxRecDepth 100000
set_option linter.unusedVariables false
set_option linter.unusedSimpArgs false
namespace Go.Proofs.YtmgenobllanmjaaGreatDoor.vars
open Go Go.Sx
theorem y6_ (a:Int):IntKind.i64.wrap (IntKind.i64.wrap a*256)=IntKind.i64.wrap (a*256):=by simp [IntKind.wrap,IntKind.bits,IntKind.signed];split<;>split<;>split<;>omega
theorem z5_ {n c:Nat} (hc:c<256):(n*256)|||c=n*256+c:=by have:=Nat.shiftLeft_add_eq_or_of_lt (b:=c) (i:=8) hc n;rw [Nat.shiftLeft_eq]at this;exact this.symm
theorem y7_ (a:Int) (c:Nat):IntKind.i64.wrap (a%18446744073709551616+c)=IntKind.i64.wrap (a+c):=by simp [IntKind.wrap,IntKind.bits,IntKind.signed]
theorem zm_ (a:Int) {c:Nat} (hc:c<256):IntKind.i64.wrap ((BitVec.ofInt 64 (IntKind.i64.wrap (a*256))|||BitVec.ofInt 64 (c:Int)).toNat:Int)=IntKind.i64.wrap (a*256+c):=by
 have h0:IntKind.i64.wrap (a*256)%18446744073709551616=(a*256)%18446744073709551616:=by simp [IntKind.wrap,IntKind.bits,IntKind.signed];split<;>omega
 have h1:(BitVec.ofInt 64 (IntKind.i64.wrap (a*256))).toNat=(a%72057594037927936).toNat*256:=by rw [BitVec.toNat_ofInt];show (IntKind.i64.wrap (a*256)%18446744073709551616).toNat=_;rw [h0];omega
 have h2:(BitVec.ofInt 64 (c:Int)).toNat=c:=by rw [BitVec.toNat_ofInt];show ((c:Int)%18446744073709551616).toNat=_;omega
 rw [BitVec.toNat_or,h1,h2,z5_ hc,←y7_]
 congr 1
 omega
theorem yT_ (P:Program) (t:TypeId) (cx cy:Bool) (x:Int):(XOp.bin .shl t cx cy).run P [.int .i64 x,.int .u64 8]=some (.int .i64 (IntKind.i64.wrap (x*256))):=by kernel_rfl
theorem zq_ (P:Program) (t:TypeId) (cx cy:Bool) (a:Int) {c:Nat} (hc:c<256):(XOp.bin .or t cx cy).run P [.int .i64 (IntKind.i64.wrap (a*256)),.int .i64 (c:Int)]=some (.int .i64 (IntKind.i64.wrap (a*256+c))):=by rw [←zm_ a hc];kernel_rfl
theorem xy_ (l:List UInt8) (c:UInt8):∀v,r_ v (l++[c])=r_ v l*256+c.toNat:=by
 induction l with
 |nil=>intro v;rfl
 |cons x l ih=>intro v;exact ih _
def H_ (l:List UInt8):Int:=IntKind.i64.wrap (r_ 0 l:Int)
theorem yJ_ (P:Program) (t:TypeId) (cx cy:Bool) (l:List UInt8) (c:UInt8):(XOp.bin .or t cx cy).run P [.int .i64 (IntKind.i64.wrap (H_ l*256)),.int .i64 (c.toNat:Int)]=some (.int .i64 (H_ (l++[c]))):=by unfold H_;rw [y6_,zq_ P t cx cy _ (UInt8.toNat_lt c),xy_];rfl
theorem zt_ (P:Program) (t:TypeId) (cx cy:Bool) (v:Int) {i:Nat} (hi:i<=7):(XOp.bin .shr t cx cy).run P [.int .i64 v,.int .i64 (8*(i:Int))]=some (.int .i64 (v/((256^i:Nat):Int))):=by rcases (by omega:i=0\/i=1\/i=2\/i=3\/i=4\/i=5\/i=6\/i=7)with rfl|rfl|rfl|rfl|rfl|rfl|rfl|rfl;exact (show (XOp.bin .shr t cx cy).run P [.int .i64 v,.int .i64 0]=some (.int .i64 (v.fdiv 1)) by kernel_rfl).trans (by rw [Int.fdiv_eq_ediv_of_nonneg _ (by decide)];rfl);exact (show (XOp.bin .shr t cx cy).run P [.int .i64 v,.int .i64 8]=some (.int .i64 (v.fdiv 256)) by kernel_rfl).trans (by rw [Int.fdiv_eq_ediv_of_nonneg _ (by decide)];rfl);exact (show (XOp.bin .shr t cx cy).run P [.int .i64 v,.int .i64 16]=some (.int .i64 (v.fdiv 65536)) by kernel_rfl).trans (by rw [Int.fdiv_eq_ediv_of_nonneg _ (by decide)];rfl);exact (show (XOp.bin .shr t cx cy).run P [.int .i64 v,.int .i64 24]=some (.int .i64 (v.fdiv 16777216)) by kernel_rfl).trans (by rw [Int.fdiv_eq_ediv_of_nonneg _ (by decide)];rfl);exact (show (XOp.bin .shr t cx cy).run P [.int .i64 v,.int .i64 32]=some (.int .i64 (v.fdiv 4294967296)) by kernel_rfl).trans (by rw [Int.fdiv_eq_ediv_of_nonneg _ (by decide)];rfl);exact (show (XOp.bin .shr t cx cy).run P [.int .i64 v,.int .i64 40]=some (.int .i64 (v.fdiv 1099511627776)) by kernel_rfl).trans (by rw [Int.fdiv_eq_ediv_of_nonneg _ (by decide)];rfl);exact (show (XOp.bin .shr t cx cy).run P [.int .i64 v,.int .i64 48]=some (.int .i64 (v.fdiv 281474976710656)) by kernel_rfl).trans (by rw [Int.fdiv_eq_ediv_of_nonneg _ (by decide)];rfl);exact (show (XOp.bin .shr t cx cy).run P [.int .i64 v,.int .i64 56]=some (.int .i64 (v.fdiv 72057594037927936)) by kernel_rfl).trans (by rw [Int.fdiv_eq_ediv_of_nonneg _ (by decide)];rfl)
abbrev By (l:List UInt8) (x:AV):Prop:=SlV a_ 1 l x
section
variable {l:List UInt8} {x:AV}
theorem l_ (h:By l x):(XOp.len 22).run Tryz.prog [x]=some (.int .i64 (l.length:Int)):=h.len Tryz.underlying22
theorem yD_ (h:By l x) {i:Nat} (hi:i<l.length):(XOp.iaddr 22).run Tryz.prog [x,.int .i64 (i:Int)]=some (.vptr (a9_ a_ (l.drop i))):=h.ia (e:=5) Tryz.underlying22 (ti:=(Tryz.prog.info? 5).get!) (by kernel_rfl) (by kernel_rfl) ev_ hi .i64
theorem ld5 {i:Nat} (hi:i<l.length):(XOp.load 5).run Tryz.prog [.vptr (a9_ a_ (l.drop i))]=some (.int .u8 (l[i].toNat:Int)):=by rw [List.drop_eq_getElem_cons hi];exact tG_ Tryz.underlying5 rfl _ _
theorem yL_ (i:Nat):okC (.vptr (a9_ a_ (l.drop i)))=true:=lm_ c_ _
theorem AS_ (h:By l x) {n:Nat} (hn:n<=l.length):∃r,(XOp.slc 22 false true).run Tryz.prog [x,.int .i64 (n:Int)]=some r/\By (l.take n) r:=by obtain ⟨r,h1,h2⟩:=wn_ (e:=5) Tryz.underlying22 (ti:=(Tryz.prog.info? 5).get!) (by kernel_rfl) (by kernel_rfl) ev_ h (lo:=none) (hi':=some (.int .i64 (n:Int))) (i:=0) (j:=n) rfl rfl (Nat.zero_le _) hn;exact ⟨r,h1,h2⟩
theorem AT_ (h:By l x) {n:Nat} (hn:n<=l.length):∃r,(XOp.slc 22 true false).run Tryz.prog [x,.int .i64 (n:Int)]=some r/\By (l.drop n) r:=by obtain ⟨r,h1,h2⟩:=wn_ (e:=5) Tryz.underlying22 (ti:=(Tryz.prog.info? 5).get!) (by kernel_rfl) (by kernel_rfl) ev_ h (lo:=some (.int .i64 (n:Int))) (hi':=none) (i:=n) (j:=l.length) rfl rfl hn (Nat.le_refl _);rw [List.take_length]at h2;exact ⟨r,h1,h2⟩
end
theorem yV_ (l:List UInt8) (lo hi:Option AV) (e:cS_ (jW_ a_ 1 l) (aP_ Tryz.prog h0 22 (jW_ a_ 1 l) lo hi)=some .nsl):False:=by
 obtain ⟨_,e⟩:=bM_ e;unfold aP_ jW_ at e;simp only [Tryz.underlying22]at e;repeat' split at e
 all_goals first|cases e|(injection e with e;cases e)
theorem zF_ (l:List UInt8) {n:Nat} (hn:n<=l.length):(XOp.slc 22 false true).run Tryz.prog [jW_ a_ 1 l,.int .i64 (n:Int)]=some (jW_ a_ 1 (l.take n)):=by obtain ⟨r,e,h⟩:=AS_ (SlV.v (enc:=a_) (w:=1) l) hn;rcases h with rfl|⟨_,rfl⟩;exact e;exact (yV_ l none (some (.int .i64 (n:Int))) e).elim
theorem zG_ (l:List UInt8) {n:Nat} (hn:n<=l.length):(XOp.slc 22 true false).run Tryz.prog [jW_ a_ 1 l,.int .i64 (n:Int)]=some (jW_ a_ 1 (l.drop n)):=by obtain ⟨r,e,h⟩:=AT_ (SlV.v (enc:=a_) (w:=1) l) hn;rcases h with rfl|⟨_,rfl⟩;exact e;exact (yV_ l (some (.int .i64 (n:Int))) none e).elim
theorem Aq_ (c:UInt8):(XOp.conv 5 2).run Tryz.prog [.int .u8 (c.toNat:Int)]=some (.int .i64 (c.toNat:Int)):=by have:=UInt8.toNat_lt c;rw [ur_ Tryz.underlying5 Tryz.underlying2,wK_ (by omega) (by omega)]
theorem bq_ {n:Nat} (h:n<9223372036854775807):IntKind.i64.wrap ((n:Int)+1)=((n+1:Nat):Int):=by rw [wK_ (by omega) (by omega)];rfl
end Go.Proofs.YtmgenobllanmjaaGreatDoor.vars
set_option maxRecDepth 100000
set_option linter.unusedVariables false
set_option linter.unusedSimpArgs false
namespace Go.Proofs.YtmgenobllanmjaaGreatDoor.vars
open Go Go.Sx
def c36:VC:=⟨⟨[],[]⟩,[],[],1,true,[]⟩
def t36:VT:=.ite 65 (Li Zg [66] 67<|Dn [67,.nsl,.bool true])<|Li Qc [64] 67<|It Zh [66,67] 68 (Li Zg [66] 69<|Dn [69,.nsl,.bool true])<|Li Qw [64,66] 69<|Li Zi [64,66] 70<|Dn [69,70,65]
def c34:VC:=⟨⟨[],[]⟩,[],[(0,[⟨[(11,.slx 0 0 0),(4,.slx 1 0 0),(10,.slx 2 0 0),(9,.slx 3 0 0)],[(0,[.slx 4 0 0,.slx 5 0 0])],1,6,[],[],[]⟩])],1,true,[(36,yy_)]⟩
def t34:VT:=Cf 36 yy_ [64,65,66] 67 3<|Li Qc [70] 73<|.loop 74 0 [J 0,J 0,73,70,71,72] (.cons 6 (It Qd [74,76] 80 (Li Qz [77,74] 81<|Li Z0 [81] 82<|Li U1 [75,.int .u64 8] 83<|Li (.conv 5 2) [82] 84<|Li U3 [83,84] 85<|Li Q4 [74,J 1] 86<|.again 0 0 [86,85,76,77,78,79])<|Dn [75,78,79]) .nil)
theorem xW_ (n:Nat):ax_ [AV.int .u8 0] n=a9_ a_ (List.replicate n 0):=by
 induction n with
 |zero=>rfl
 |succ n ih=>rw [List.replicate_succ];show _++ax_ _ n=_;rw [ih];rfl
theorem xE_ {n:Nat} (h:n<=70000):(XOp.mkx 1 1 [.int .u8 0]).run Tryz.prog [.int .i64 (n:Int)]=some (jW_ a_ 1 (List.replicate n 0)):=by
 show (match Nat.ble (Nat.mul 1 n) 16777216&&Nat.ble n 16777216 with
  |true=>some (AV.vsl n 1 (ax_ [.int .u8 0] n))
  |false=>none)=_
 rw [show Nat.mul 1 n=n from Nat.one_mul n,Nat.ble_eq_true_of_le (by omega:n<=16777216)];show some (AV.vsl n 1 _)=_;rw [xW_];unfold jW_;rw [List.length_replicate]
theorem ok3 {z y:AV} (b:Bool) (h:okC z=true) (h1:okC y=true):okL [z,y,.bool b]=true:=by simp only [okL,h,h1,okC]
def R30 (l:List UInt8) (bad:Bool) (n:Nat):Nat->List AV->Prop:=λ_ ws=>∃z y b,ws=[z,y,.bool b]/\(if bad=true\/l.length<n then b=true/\y=.nsl/\z=jW_ a_ 1 (List.replicate n 0)else b=false/\z=jW_ a_ 1 (l.take n)/\y=jW_ a_ 1 (l.drop n))
theorem p36 {l:List UInt8} {x:AV} (h:By l x) (bad:Bool) (hx:bad=false->x=jW_ a_ 1 l) {n:Nat} (hn:n<=70000):CF Tryz.prog 36 yy_ [x,.bool bad,.int .i64 (n:Int)] (R30 l bad n):=by refine wb_ (c:=c36) (n:=300) (t:=t36) mo ov rfl (λY _=>wB_ _) (by kernel_rfl) λY hf hg=>?_;unfold t36;refine v8_ (t:=bad) rfl (λhb=>?_) (λhb=>?_);refine wt_ (xE_ hn) (sQ_ c_ _) (VOK_fin (ok3 _ (sQ_ c_ _) rfl) ⟨_,_,_,rfl,?_⟩);rw [if_pos (.inl hb)];exact ⟨rfl,rfl,rfl⟩;subst hb;refine wt_ (l_ h) rfl (wt_ (run_gtr ..) rfl (v8_ rfl (λh1=>?_) (λh1=>?_)));have h1:(l.length:Int)<(n:Int):=of_decide_eq_true h1;refine wt_ (xE_ hn) (sQ_ c_ _) (VOK_fin (ok3 _ (sQ_ c_ _) rfl) ⟨_,_,_,rfl,?_⟩);rw [if_pos (.inr (by omega))];exact ⟨rfl,rfl,rfl⟩;have h1:¬(l.length:Int)<(n:Int):=of_decide_eq_false h1;obtain rfl:=hx rfl;refine wt_ (zF_ l (n:=n) (by omega)) (sQ_ c_ _) (wt_ (zG_ l (n:=n) (by omega)) (sQ_ c_ _) (VOK_fin (ok3 _ (sQ_ c_ _) (sQ_ c_ _)) ⟨_,_,_,rfl,?_⟩));rw [if_neg (λh=>h.elim (λh=>by cases h) (λh=>by omega))];exact ⟨rfl,rfl,rfl⟩
theorem yI_ (n:Nat):r_ 0 (List.replicate n 0)=0:=by
 induction n with
 |zero=>rfl
 |succ n ih=>rw [List.replicate_succ];exact ih
theorem yj_ (n:Nat):H_ (List.replicate n 0)=0:=by unfold H_;rw [yI_];decide
def R28 (l:List UInt8) (bad:Bool) (n:Nat):Nat->List AV->Prop:=λ_ ws=>∃v y b,ws=[.int .i64 v,y,.bool b]/\(if bad=true\/l.length<n then b=true/\y=.nsl/\v=0 else b=false/\v=H_ (l.take n)/\y=jW_ a_ 1 (l.drop n))
theorem p34 {l:List UInt8} {x:AV} (h:By l x) (bad:Bool) (hx:bad=false->x=jW_ a_ 1 l) {n:Nat} (hn:n<=70000):CF Tryz.prog 34 v1_ [x,.bool bad,.int .i64 (n:Int)] (R28 l bad n):=by
 refine wb_ (c:=c34) (n:=300) (t:=t34) mo ov rfl (λY _=>wB_ _) (by kernel_rfl) λY hf hg=>?_;unfold t34;refine vn_ (p36 h bad hx hn) (by show okL [x,.bool bad,.int .i64 (n:Int)]=true;simp only [okL,h.ok c_,okC]) ⟨?_,trivial⟩;rintro ws ⟨z,y,b,rfl,hR⟩;have key:∃m:List UInt8,By m z/\okC y=true/\m.length=n/\(R28 l bad n 0 [.int .i64 (H_ m),y,.bool b]):=by
  split at hR;rename_i hc;obtain ⟨rfl,rfl,rfl⟩:=hR;exact ⟨_,SlV.v _,rfl,List.length_replicate,_,_,_,rfl,by rw [if_pos hc];exact ⟨rfl,rfl,yj_ n⟩⟩
  .rename_i hc;obtain ⟨rfl,rfl,rfl⟩:=hR;have hle:n<=l.length:=by have:=λe=>hc (.inr e);omega
   exact ⟨_,SlV.v _,sQ_ c_ _,by rw [List.length_take];omega,_,_,_,rfl,by rw [if_neg hc];exact ⟨rfl,rfl,rfl⟩⟩
 obtain ⟨m,hm,hy,hlen,hfin⟩:=key;refine wt_ (l_ hm) rfl ?_;refine vA_ (ι:=Nat) (λi=>[.int .i64 (i:Int),.int .i64 (H_ (m.take i)),.int .i64 (m.length:Int),z,y,.bool b]) (λi=>i<=m.length) (λi=>m.length-i) 0 (Nat.zero_le _) ?_ (λ_ _=>by simp only [okL,okC,hm.ok c_,hy]) (λi j _ _ h=>?_) (λi hi=>?_);rfl
 .have h:=(List.cons.inj h).1;injection h with _ h
  omega
 refine wt_ (run_lss ..) rfl (v8_ rfl (λhlt=>?_) (λhlt=>?_));have hlt:(i:Int)<(m.length:Int):=of_decide_eq_true hlt;have hlt:i<m.length:=(by omega);refine wt_ (yD_ hm hlt) (yL_ _) (wt_ (ld5 hlt) rfl (wt_ (yT_ ..) rfl (wt_ (Aq_ _) rfl (wt_ (yJ_ ..) rfl (wt_ (run_add ..) rfl (vm_ rfl ⟨i+1,hlt,?_,?_⟩))))));show [AV.int .i64 (IntKind.i64.wrap ((i:Int)+1)),AV.int .i64 (H_ (m.take i++[m[i]])),AV.int .i64 (m.length:Int),z,y,AV.bool b]=[AV.int .i64 ((i+1:Nat):Int),AV.int .i64 (H_ (m.take (i+1))),AV.int .i64 (m.length:Int),z,y,AV.bool b];rw [bq_ (by omega),List.take_append_getElem hlt];omega;have hlt:¬(i:Int)<(m.length:Int):=of_decide_eq_false hlt;have e:m.take i=m:=List.take_of_length_le (by omega);refine VOK_fin (by show okL [.int .i64 _,y,.bool b]=true;simp only [okL,okC,hy]) ?_;show R28 l bad n 0 [.int .i64 (H_ (m.take i)),y,.bool b];rw [e];exact hfin
end Go.Proofs.YtmgenobllanmjaaGreatDoor.vars
