/-
  A symbol as a number, a number as a value: short names for trees.
-/
import Derived.Test.YtijpblconliffaaGreatDoorSyK
import Derived.Test.YtijpblconliffaaGreatDoorRows
import Derived.KernelRfl
import Derived.Test.YtijpblconliffaaGreatDoorSyD
namespace Go.Proofs.YtijpblconliffaaGreatDoor.vars
open Go Go.Sx
instance symN (n:Nat):OfNat AV n:=⟨.sym n⟩
abbrev J (n:Int):AV:=.int .i64 n
abbrev K (o:XOp) (a:List AV) (i:Nat) (t:VT):VT:=.lt o a i none t
abbrev Q0:XOp:=.bin .add 3 false true
abbrev Li (o:XOp) (a:List AV) (n:Nat) (t:VT):VT:=.lt o a n none t
abbrev It (o:XOp) (a:List AV) (n:Nat) (A B:VT):VT:=.lt o a n none (.ite n A B)
abbrev Iq (i:Nat) (k:Int) (n:Nat) (A B:VT):VT:=.lt Q0 [.sym i,J k] n none (.ite n A B)
abbrev Dn (l:List AV):VT:=.done (.tup (J 0::l))
abbrev Cf (f:FuncId) (t:FT) (h:List AV) (n k:Nat) (b:VT):VT:=.callF f t h n (.cons k b .nil)
abbrev Q1:XOp:=.bin .eql 3 false true
abbrev Q2:XOp:=.bin .lss 3 false false
abbrev Q3:XOp:=.un .not
abbrev Q4:XOp:=.bin .neq 3 false false
abbrev Q5:XOp:=.load 3
abbrev Q6:XOp:=.load 9
abbrev Q7:XOp:=.len 42
abbrev Q8:XOp:=.len 87
abbrev Q9:XOp:=.bin .gtr 3 false true
abbrev Qa:XOp:=.app 12 128
abbrev Qb:XOp:=.iaddr 47
abbrev Qc:XOp:=.len 47
abbrev Qd:XOp:=.iaddr 87
abbrev Qe:XOp:=.bin .lss 3 false true
abbrev Qf:XOp:=.bin .mul 3 false true
abbrev Qg:XOp:=.iaddr 52
abbrev Qh:XOp:=.conv 5 3
abbrev Qi:XOp:=.slc 42 true false
abbrev Qj:XOp:=.bin .rem 5 false true
abbrev Qk:XOp:=.iaddr 42
abbrev Ql:XOp:=.app 4 64
abbrev Qm:XOp:=.len 43
abbrev Qo:XOp:=.len 26
abbrev Qp:XOp:=.bin .sub 3 false true
abbrev Qq:XOp:=.app 3 24
abbrev Qr:XOp:=.len 52
abbrev Qs:XOp:=.bin .neq 4 false false
abbrev Qt:XOp:=.bin .geq 3 false true
abbrev Qu:XOp:=.iaddr 26
abbrev Qv:XOp:=.load 91
abbrev Qw:XOp:=.bin .eql 3 false false
abbrev Qx:XOp:=.len 22
abbrev Qy:XOp:=.bin .neq 3 false true
abbrev Qz:XOp:=.bin .neq 27 false true
abbrev Z0:XOp:=.faddr 91 1
abbrev Z1:XOp:=.app 1 16
abbrev Z2:XOp:=.app 15 128
abbrev Z3:XOp:=.load 54
abbrev Z4:XOp:=.load 38
abbrev Z5:XOp:=.bin .add 3 true false
abbrev Z6:XOp:=.faddr 51 1
abbrev Z7:XOp:=.faddr 51 2
abbrev Z8:XOp:=.load 49
abbrev Z9:XOp:=.app 1 8
abbrev Za:XOp:=.app 4 40
abbrev Zb:XOp:=.faddr 54 1
abbrev Zc:XOp:=.faddr 51 0
abbrev Zd:XOp:=.iaddr 43
abbrev Ze:XOp:=.bin .neq 2 false false
abbrev Zf:XOp:=.bin .rem 3 false true
abbrev Zh:XOp:=.ldx 100 15 0
abbrev Zi:XOp:=.bin .eql 9 false false
abbrev Zj:XOp:=.bin .geq 3 false false
abbrev Zk:XOp:=.slc 87 true true
abbrev Zl:XOp:=.bin .add 3 false false
abbrev Zn:XOp:=.load 100
abbrev Zp:XOp:=.bin .gtr 3 false false
abbrev Zr:XOp:=.bin .lss 2 false true
abbrev Zs:XOp:=.bin .leq 3 false false
abbrev Zw:XOp:=.bin .sub 3 false false
abbrev Zz:XOp:=.bin .eql 4 false false
end Go.Proofs.YtijpblconliffaaGreatDoor.vars
set_option linter.unusedVariables false
namespace Go.Proofs.YtijpblconliffaaGreatDoor.vars
open Go Go.Sx
def hs:Nat->Nat->List AV
 |_,0=>[]
 |j,n+1=>.slx j 0 0::hs (j+1) n
def pk (a b:AV):Nat×List AV:=(0,[a,b])
def ftC (w:Nat):FT:=⟨0,⟨[(0,.slx 0 0 0)],[],0,1,[],[],[]⟩,[(false,⟨[(0,.slx 0 w 0)],[],1,1,[⟨0,w,0,0,none⟩],[],[]⟩)]⟩
def wd_:FT:=ftC 15
def vM_:FT:=ftC 12
def vN_:FT:=ftC 4
def sess:AV:=.agg (hs 0 5++[.slx 0 12 5,.slx 1 15 6,.slx 7 0 0])
def ftS (sl:List (Nat×AV)) (nv:Nat):FT:=⟨0,⟨sl,[],0,nv,[],[],[]⟩,[(false,⟨[(0,sess)],[],2,8,[⟨0,12,5,600,some 5⟩,⟨1,15,6,600,some 6⟩],[],[]⟩)]⟩
def wv_:FT:=ftS [(0,.agg (hs 0 8))] 8
def wY_:FT:=ftS [(0,.agg (hs 0 8)),(1,.slx 8 0 0),(2,.slx 9 0 0)] 10
def wX_:FT:=wv_
def v3_ (r:Nat):List AV:=hs 0 20++[.slx 1 12 20,.slx r 15 21]++hs 22 3
def wp_:List AV:=aj_ 64 20++[.ptx 1 84 12 0,.ptx 2 85 15 0]++aj_ 86 3
def why:AV:=.iface 178 (.agg [.slx 0 0 0])
def ftV (sl:List (Nat×AV)) (nv:Nat) (exs:List (Bool×Nat×AV)):FT:=⟨3,⟨(0,.ptr 0 0)::sl,[(0,v3_ 2)],3,nv+25,[⟨1,12,20,0,some 20⟩,⟨2,15,21,0,some 21⟩],[],[]⟩,
 exs.map λ(b,n,a)=>(b,⟨[(0,a)],[(0,wp_)],3,n,[],[],[(1,84),(2,85)]⟩)⟩
def vW_:FT:=ftV [(1,.agg (hs 25 12))] 12 [(false,1,.slx 0 0 0),(true,1,why)]
def we_:FT:=vW_
def w1_:FT:=ftV [(1,.agg (hs 25 4))] 4 [(false,3,.agg (hs 0 3))]
def w2_:FT:=ftV [(1,.agg (hs 25 4))] 4 [(false,1,.slx 0 0 0)]
def xj_ (id:AV):List AV:=[.int .i64 6,id,.int .i64 0,.int .i64 0,.int .i64 0,.bool false,.int .i64 0,.int .i64 0,.int .i64 0,.flt .f64 0,.nsl,.nsl]
def ftA (k:Nat) (exs:List (Bool×Tpl)):FT:=⟨4,⟨[(0,.ptr 0 0),(1,.agg (hs 25 12)),(2,.ptr 3 0)],[(0,v3_ 2),(3,xj_ (.slx 37 0 0))],4,38,[⟨1,12,20,0,some 20⟩,⟨2,15,21,0,some 21⟩],[],[]⟩,exs⟩
def wa_ (n p v:AV):List AV:=[.int .i64 6,.sym 101,.int .i64 0,n,.int .i64 0,.bool false,.int .i64 0,.int .i64 0,.int .i64 0,.flt .f64 0,p,v]
def exP:Bool×Tpl:=(true,⟨[(0,why)],[(0,wp_),(3,wa_ (.int .i64 0) .nsl .nsl)],4,1,[],[],[(1,84),(2,85)]⟩)
def wZ_:FT:=ftA 0 [(false,⟨[(0,.tup [])],[(0,wp_),(3,wa_ (.int .i64 0) .nsl (.slx 4 3 0))],5,1,[⟨4,3,0,3,some 11⟩],[],[(1,84),(2,85)]⟩),exP]
def w0_:FT:=ftA 0 [(false,⟨[(0,.tup [])],[(0,wp_),(3,wa_ (.slx 0 0 0) (.slx 4 1 1) .nsl)],5,2,[⟨4,1,1,3,some 10⟩],[],[(1,84),(2,85)]⟩),exP]
def wJ_ (r:Nat):List AV:=aj_ 64 20++[.ptx 1 84 12 0,.slx r 15 0,.slx 1 0 0]++aj_ 87 2
def ft55:FT:=⟨3,⟨[(0,.ptr 0 0),(1,.agg (hs 25 12)),(2,.ptr 2 0)],[(0,v3_ 3),(2,xj_ (.slx 37 0 0))],4,38,[⟨1,12,20,0,some 20⟩,⟨3,15,21,0,some 21⟩],[],[]⟩,
 [(false,⟨[(0,.tup [])],[(0,wJ_ 3),(2,wa_ (.slx 2 0 0) .nsl .nsl)],4,3,[⟨3,15,0,0,some 21⟩],[],[(1,84)]⟩),(true,⟨[(0,.iface 178 (.agg [.slx 2 0 0]))],[(0,wJ_ 3),(2,wa_ (.int .i64 0) .nsl .nsl)],4,3,[⟨3,15,0,0,some 21⟩],[],[(1,84)]⟩)]⟩
def ft56:FT:=⟨2,⟨[(0,.ptr 0 0),(1,.agg (hs 25 12))],[(0,v3_ 2)],3,37,[⟨1,12,20,0,some 20⟩,⟨2,15,21,0,some 21⟩],[],[]⟩,
 [(false,⟨[(0,.tup [])],[(0,wJ_ 2)],3,2,[⟨2,15,0,0,some 21⟩],[],[(1,84)]⟩),(true,⟨[(0,.iface 178 (.agg [.slx 2 0 0]))],[(0,wJ_ 2)],3,3,[⟨2,15,0,0,some 21⟩],[],[(1,84)]⟩)]⟩
def ft99:FT:=⟨1,⟨[(0,.slx 0 15 0),(1,.slx 1 0 0)],[],1,2,[⟨0,15,0,0,none⟩],[],[]⟩,[(false,⟨[(0,.slx 0 0 0)],[],1,1,[],[],[(0,64)]⟩)]⟩
def ft101:FT:=⟨0,⟨[(0,.slx 0 15 0),(1,.slx 1 0 0),(2,.slx 2 0 0)],[],1,3,[⟨0,15,0,0,none⟩],[],[]⟩,[(false,⟨[(0,.slx 0 15 0)],[],1,1,[⟨0,15,0,0,none⟩],[],[]⟩)]⟩
def yS_:List AV:=aj_ 64 20++[.ptx 1 84 12 0,.ptx 2 85 15 0,.sym 86,.slx 0 0 0,.sym 88]
def ft53:FT:=⟨3,⟨[(0,.ptr 0 0),(1,.agg (hs 25 12))],[(0,v3_ 2)],3,37,[⟨1,12,20,0,some 20⟩,⟨2,15,21,0,some 21⟩],[],[]⟩,
 [(false,⟨[(0,.tup [])],[(0,yS_)],3,1,[],[],[(1,84),(2,85)]⟩),(true,⟨[(0,why)],[(0,wp_)],3,1,[],[],[(1,84),(2,85)]⟩)]⟩
def yR_:List AV:=aj_ 64 20++[.ptx 1 84 12 0,.slx 2 15 0,.slx 1 0 0,.slx 2 0 0,.sym 88]
def ft27:FT:=⟨2,⟨[(0,.ptr 0 0),(1,.agg (hs 25 12))],[(0,v3_ 2)],3,37,[⟨1,12,20,0,some 20⟩,⟨2,15,21,0,some 21⟩],[],[]⟩,
 [(false,⟨[(0,.tup [.agg (hs 3 12),.slx 15 0 0])],[(0,yR_)],3,16,[⟨2,15,0,0,some 21⟩],[],[(1,84)]⟩)]⟩
def VARS:AV:=.vsl 7 10 [.str [97],.int .i64 1,.int .i64 2,.int .i64 0,.int .i64 2,.int .i64 0,.flt .f64 0,.int .i64 0,.int .i64 0,.flt .f64 0,.str [98],.int .i64 1,.int .i64 1,.int .i64 0,.int .i64 1,.int .i64 0,.flt .f64 0,.int .i64 0,.int .i64 0,.flt .f64 0,.str [111],.int .i64 2,.int .i64 2,.int .i64 0,.int .i64 2,.int .i64 1,.flt .f64 0,.int .i64 2,.int .i64 9,.flt .f64 0,.str [110],.int .i64 3,.int .i64 2,.int .i64 0,.int .i64 2,.int .i64 0,.flt .f64 0,.int .i64 0,.int .i64 0,.flt .f64 0,.str [120],.int .i64 3,.int .i64 2,.int .i64 0,.int .i64 2,.int .i64 0,.flt .f64 0,.int .i64 0,.int .i64 0,.flt .f64 0,.str [114],.int .i64 3,.int .i64 5,.int .i64 0,.int .i64 5,.int .i64 0,.flt .f64 0,.int .i64 0,.int .i64 0,.flt .f64 0,.str [107],.int .i64 3,.int .i64 2,.int .i64 3,.int .i64 2,.int .i64 0,.flt .f64 0,.int .i64 0,.int .i64 0,.flt .f64 0]
end Go.Proofs.YtijpblconliffaaGreatDoor.vars
set_option maxRecDepth 100000
set_option linter.unusedVariables false
set_option linter.unusedSimpArgs false
namespace Go.Proofs.YtijpblconliffaaGreatDoor.vars
open Go Go.Sx
instance gI:Gl:=glT gl0 nr0 []
theorem mo:Tryz.prog.follows .mixedOrders=true:=by kernel_rfl
theorem ov:kC_ Tryz.prog:=vE_ gl0 nr0 _
theorem a_ {P:Program} {Q:AV->Prop} {L:List (Nat->List AV->Prop)} {Y:Sy} {f:FuncId} {ft:FT} {hv vs:List AV} {n:Nat} {bs:VTs} {R:Nat->List AV->Prop} (h1:CF P f ft vs R) (h0:ab_ Y.v hv=vs) (h2:okL vs=true) (h3:sc_ P Q R L (Y.puts n vs) (Nat.add n ft.ent.nv) 0 bs):VOK P Q L Y (.callF f ft hv n bs):=by subst h0;exact uq_ h1 h2 h3
theorem dT {p:Prop} [Decidable p] (h:decide p=true):p:=of_decide_eq_true h
theorem dF {p:Prop} [Decidable p] (h:decide p=false):¬p:=of_decide_eq_false h
theorem d_ {x y:Int} {t:TypeId} {cx cy:Bool} (h1: -9223372036854775807<=x+y) (h2:x+y<=9223372036854775807):(XOp.bin .add t cx cy).run Tryz.prog [.int .i64 x,.int .i64 y]=some (.int .i64 (x+y)):=by rw [run_add,vI_ (by omega) (by omega)]
theorem c_ {t:TypeId} {cx cy:Bool} {e:Int}:(XOp.bin .neq t cx cy).run Tryz.prog [.int .i64 e,.int .i64 e]=some (.bool false):=by rw [run_neq,decide_eq_true rfl];rfl
theorem s_ {cs:List AV} (h:okL cs=true):aX_ (.agg cs)=true:=kk_ (a:=.agg cs) h
theorem O_ {a b:AV} (ha:aX_ a=true) (hb:aX_ b=true):aX_ (.tup [a,b])=true:=by simp only [aX_,cC_,ha,hb]
theorem N_ {α:Type} {enc:α->List AV} {w b:Nat} (hw:∀a,(enc a).length=w) (hwp:0<w) (hb:0<b) {l:List α} {x:AV} (h:SlV enc w l x) (hl:l.length*b<=1073741824):(XOp.app w b).run Tryz.prog [.vsl 0 w [],x]=some (dq_ enc w l):=by
 have ha:bl_ w x=some (l.length,bq_ enc l):=h.arg hw;show (match bl_ w x with|some (n,l')=>gu_ w b (.vsl 0 w []) n l'|none=>none)=_;rw [ha];show gu_ w b (.vsl 0 w []) l.length (bq_ enc l)=_;have h1:(bq_ enc l).length=l.length*w:=bC_ hw l;have hl1:l.length<=1073741824:=Nat.le_trans (Nat.le_mul_of_pos_right _ hb) hl;unfold gu_;simp only [h1,decide_true,List.length_nil,Nat.zero_mul,and_self];cases l with
 |nil=>rfl
 |cons c r=>have c1:(Nat.ble (Nat.mul (Nat.add 0 (r.length+1)) b) 1073741824&&Nat.ble (Nat.add 0 (r.length+1)) 1073741824&&Nat.blt 0 b)=true:=(by have e:Nat.mul (Nat.add 0 (r.length+1)) b=(r.length+1)*b:=(by show (0+(r.length+1))*b=_;rw [Nat.zero_add]);have e2:Nat.add 0 (r.length+1)=r.length+1:=Nat.zero_add _;have e3:Nat.blt 0 b=true:=(by rw [Nat.blt_eq];exact hb);rw [e,e2,e3,Nat.ble_eq_true_of_le (show (r.length+1)*b<=1073741824 from hl),Nat.ble_eq_true_of_le (show r.length+1<=1073741824 from hl1)];rfl);simp only [List.length_cons,c1];show some (AV.vsl (Nat.add 0 (r.length+1)) w ([]++bq_ enc (c::r)))=_;rw [show Nat.add 0 (r.length+1)=r.length+1 from Nat.zero_add _,List.nil_append];rfl
structure FV where
 k:Int
 i:Int
 f:Option Nat
def fv:Option Nat->AV
 |some n=>.flt .f64 n
 |none=>.nan .f64
theorem vK_ (o:Option Nat):okC (fv o)=true:=by cases o<;>rfl
def FV.z:FV:=⟨0,0,some 0⟩
def k_ (v:FV):List AV:=[.int .i64 v.k,.int .i64 v.i,fv v.f]
theorem rl_ (v:FV):(k_ v).length=3:=rfl
theorem A_ (v:FV):okL (k_ v)=true:=by simp only [k_,okL,okC,vK_]
def I_ (s:List UInt8):List AV:=[.str s]
theorem vZ_ (s:List UInt8):(I_ s).length=1:=rfl
theorem okP (s:List UInt8):okL (I_ s)=true:=rfl
def R_ (c:UInt8):List AV:=[.int .u8 (c.toNat:Int)]
theorem xy_ (c:UInt8):(R_ c).length=1:=rfl
theorem oH_ (c:UInt8):okL (R_ c)=true:=rfl
def am_ (n:Int):List AV:=[.int .i64 n]
theorem wh_ (n:Int):(am_ n).length=1:=rfl
theorem okI (n:Int):okL (am_ n)=true:=rfl
structure SV {α:Type} (enc:α->List AV) (w:Nat) where
 l:List α
 x:AV
 h:SlV enc w l x
def SV.nil {α:Type} {enc:α->List AV} {w:Nat}:SV enc w:=⟨[],.nsl,.inr ⟨rfl,rfl⟩⟩
def SV.of {α:Type} {enc:α->List AV} {w:Nat} (l:List α):SV enc w:=⟨l,ct_ enc w l,SlV.of l⟩
def SV.v {α:Type} {enc:α->List AV} {w:Nat} (l:List α):SV enc w:=⟨l,dq_ enc w l,SlV.v l⟩
theorem SV.ok {α:Type} {enc:α->List AV} {w:Nat} (s:SV enc w) (h:∀a,okL (enc a)=true):okC s.x=true:=s.h.ok h
structure GM where
 kind:Int
 id:Int
 err:Int
 n:Int
 seq:Int
 lost:Bool
 every:Int
 band:FV
 paths:SV I_ 1
 vals:SV k_ 3
def f_ (m:GM):List AV:=[.int .i64 m.kind,.int .i64 m.id,.int .i64 m.err,.int .i64 m.n,.int .i64 m.seq,.bool m.lost,.int .i64 m.every,.int .i64 m.band.k,.int .i64 m.band.i,fv m.band.f,m.paths.x,m.vals.x]
theorem D_ (m:GM):(f_ m).length=12:=rfl
theorem v_ (m:GM):okL (f_ m)=true:=by simp only [f_,okL,okC,vK_,m.paths.ok okP,m.vals.ok A_]
def GM.Sm (m:GM):Prop:=m.paths.l.length<=1000/\m.vals.l.length<=1000
structure GT where
 seq:Int
 v:FV
 lost:Bool
def bt_ (t:GT):List AV:=[.int .i64 t.seq,.int .i64 t.v.k,.int .i64 t.v.i,fv t.v.f,.bool t.lost]
theorem w8_ (t:GT):(bt_ t).length=5:=rfl
theorem okT (t:GT):okL (bt_ t)=true:=by simp only [bt_,okL,okC,vK_]
structure GW where
 num:Int
 addr:Int
 every:Int
 due:Int
 band:FV
 most:Int
 has:Bool
 lost:Bool
 last:FV
 seq:Int
 queue:SV bt_ 5
def g_ (w:GW):List AV:=[.int .i64 w.num,.int .i64 w.addr,.int .i64 w.every,.int .i64 w.due,.int .i64 w.band.k,.int .i64 w.band.i,fv w.band.f,.int .i64 w.most,.bool w.has,.bool w.lost,.int .i64 w.last.k,.int .i64 w.last.i,fv w.last.f,.int .i64 w.seq,w.queue.x]
theorem oo_ (w:GW):(g_ w).length=15:=rfl
theorem M_ (w:GW):okL (g_ w)=true:=by simp only [g_,okL,okC,vK_,w.queue.ok okT]
def GW.Sm (w:GW):Prop:=w.queue.l.length<=1000
structure GR where
 sess:Int
 id:Int
 addrs:SV am_ 1
 vals:SV k_ 3
def encR (r:GR):List AV:=[.int .i64 r.sess,.int .i64 r.id,r.addrs.x,r.vals.x]
theorem uo_ (r:GR):(encR r).length=4:=rfl
theorem r_ (r:GR):okL (encR r)=true:=by simp only [encR,okL,okC,r.addrs.ok okI,r.vals.ok A_]
def GR.Sm (r:GR):Prop:=r.addrs.l.length<=1000/\r.vals.l.length<=1000
structure GS where
 on:Bool
 seen:Int
 b:SV R_ 1
 bad:Bool
 inn:SV f_ 12
 out:SV f_ 12
 subs:SV g_ 15
 num:Int
def i_ (s:GS):List AV:=[.bool s.on,.int .i64 s.seen,s.b.x,.bool s.bad,s.inn.x,s.out.x,s.subs.x,.int .i64 s.num]
theorem okS (s:GS):okL (i_ s)=true:=by simp only [i_,okL,okC,s.b.ok oH_,s.inn.ok v_,s.out.ok v_,s.subs.ok M_]
structure GS.Sm (s:GS):Prop where
 b:s.b.l.length<=1000000
 inn:s.inn.l.length<=1000
 out:s.out.l.length<=1000
 subs:s.subs.l.length<=1000
 inM:∀m∈s.inn.l,m.Sm
 outM:∀m∈s.out.l,m.Sm
 subM:∀w∈s.subs.l,w.Sm
structure GG where
 path:List UInt8
 addr:Int
 kind:Int
 role:Int
def u_ (t:GG):List AV:=[.str t.path,.int .i64 t.addr,.int .i64 t.kind,.int .i64 t.role]
theorem un_ (t:GG):(u_ t).length=4:=rfl
theorem L_ (t:GG):okL (u_ t)=true:=rfl
end Go.Proofs.YtijpblconliffaaGreatDoor.vars
set_option maxRecDepth 100000
set_option linter.unusedVariables false
set_option linter.unusedSimpArgs false
namespace Go.Proofs.YtijpblconliffaaGreatDoor.vars
open Go Go.Sx
def c49:VC:=⟨⟨[],[]⟩,[],[],0,true,[]⟩
def t49:VT:=
 (K (.bin .eql 49 false true) [64,.nsl] 65
 (.ite 65
 (.done (.nsl))
 (K Z9 [.vsl 0 1 [],64] 66
 (.done (66)))))
def c50:VC:=⟨⟨[],[]⟩,[],[],0,true,[]⟩
def t50:VT:=
 (K (.bin .eql 26 false true) [64,.nsl] 65
 (.ite 65
 (.done (.nsl))
 (K Qq [.vsl 0 3 [],64] 66
 (.done (66)))))
def x7_:VC:=⟨⟨[],[]⟩,[],[],0,true,[]⟩
def xK_:VT:=
 (K (.bin .eql 22 false true) [64,.nsl] 65
 (.ite 65
 (.done (.nsl))
 (K (.app 1 1) [.vsl 0 1 [],64] 66
 (.done (66)))))
def ya_:VC:=⟨⟨[],[]⟩,[],[],0,true,[]⟩
def xN_:VT:=
 (K (.bin .eql 98 false true) [64,.nsl] 65
 (.ite 65
 (.done (.nsl))
 (K (.app 5 40) [.vsl 0 5 [],64] 66
 (.done (66)))))
def yf_:VC:=⟨⟨[],[]⟩,[],[],0,true,[]⟩
def xW_:VT:=
 (K (.bin .eql 52 false true) [64,.nsl] 65
 (.ite 65
 (.done (.nsl))
 (K Z1 [.vsl 0 1 [],64] 66
 (.done (66)))))
def x9_:VC:=⟨⟨[],[]⟩,[],[],0,true,[]⟩
def xM_:VT:=
 (K (.bin .eql 43 false true) [64,.nsl] 65
 (.ite 65
 (.done (.tup [J 0,.nsl]))
 (K Z2 [.vsl 0 15 [],64] 66
 (.done (.tup [J 0,66])))))
def ye_:VC:=⟨⟨[],[]⟩,[(154,[none]),(50,[none])],[],0,true,[]⟩
def xV_:VT:=.call 154 [74] 76 [none]<|.call 50 [75] 77 [none]<|.done (.agg [64,65,66,67,68,69,70,71,72,73,76,77])
def x8_:VC:=⟨⟨[],[]⟩,[(144,[(some 12)])],[(0,[⟨[(7,.slx 0 0 0),(2,.slx 0 12 1),(5,64),(6,65)],[],1,2,[⟨0,12,1,2,none⟩],[],[]⟩])],0,true,[]⟩
def xL_:VT:=
 (K Q7 [64] 65
 (.loop 66 0 [J 0,.nsl]
 (.cons 2
 (K Q2 [66,65] 68
 (.ite 68
 (K Qk [64,66] 69
 (.lt Z3 [69] 70 (some 12)
 (.call 144 [.agg [70,71,72,73,74,75,76,77,78,79,80,81]] 82 [(some 12)]
 (K Qa [67,.agg [82,83,84,85,86,87,88,89,90,91,92,93]] 94
 (K Q0 [66,J 1] 95
 (.again 0 0 [95,94]))))))
 (.done (.tup [J 0,67]))))
 .nil)))
def yc_:VC:=⟨⟨[],[]⟩,[(49,[none]),(50,[none])],[],0,true,[]⟩
def xT_:VT:=.call 49 [66] 68 [none]<|.call 50 [67] 69 [none]<|.done (.agg [64,65,68,69])
def c26:VC:=⟨⟨[],[]⟩,[(49,[none]),(50,[none])],[(0,[⟨[(7,.slx 0 0 0),(2,.slx 0 4 1),(5,64),(6,65)],[],1,2,[⟨0,4,1,2,none⟩],[],[]⟩])],0,true,[]⟩
def t26:VT:=
 (K Qc [64] 65
 (.loop 66 0 [J 0,.nsl]
 (.cons 2
 (K Q2 [66,65] 68
 (.ite 68
 (K Qb [64,66] 69
 (.lt (.load 51) [69] 70 (some 4)
 (.call 49 [72] 74 [none]
 (.call 50 [73] 75 [none]
 (K Ql [67,.agg [70,71,74,75]] 76
 (K Q0 [66,J 1] 77
 (.again 0 0 [77,76])))))))
 (.done (67))))
 .nil)))
def yb_:VC:=⟨⟨[],[]⟩,[(133,[(some 4)])],[(0,[⟨[(7,.slx 0 0 0),(2,.slx 0 4 1),(5,64),(6,65)],[],1,2,[⟨0,4,1,2,none⟩],[],[]⟩])],0,true,[]⟩
def xS_:VT:=
 (K Qc [64] 65
 (.loop 66 0 [J 0,.nsl]
 (.cons 2
 (K Q2 [66,65] 68
 (.ite 68
 (K Qb [64,66] 69
 (.lt (.load 51) [69] 70 (some 4)
 (.call 133 [.agg [70,71,72,73]] 74 [(some 4)]
 (K Ql [67,.agg [74,75,76,77]] 78
 (K Q0 [66,J 1] 79
 (.again 0 0 [79,78]))))))
 (.done (.tup [J 0,67]))))
 .nil)))
theorem p49 (s:SV am_ 1) (hl:s.l.length<=1000):ju_ Tryz.prog 49 [s.x] s.x:=by obtain ⟨l,x,h⟩:=s;have hx:=h.ok okI;simp only at hl⊢;refine t3_ (sh:=[none]) (ls:=[x]) (c:=c49) (n:=300) (t:=t49) mo ov (by rcases h with rfl|⟨_,rfl⟩<;>rfl) (by simp only [okL,hx]) (p1_ hx) (λY _=>vy_ _) rfl (by kernel_rfl) λY hf hg=>?_;unfold t49;rcases h with rfl|⟨_,rfl⟩;refine vr_ (r:=.bool false) (by kernel_rfl) rfl (u9_ (t:=false) rfl (λh=>by cases h) (λ_=>?_));exact vr_ (N_ wh_ (by decide) (by decide) (SlV.v (enc:=am_) (w:=1) l) (by omega)) (r9_ okI _) (uA_ rfl);exact vr_ (r:=.bool true) (by kernel_rfl) rfl (u9_ (t:=true) rfl (λ_=>uA_ rfl) (λh=>by cases h))
theorem p50 (s:SV k_ 3) (hl:s.l.length<=1000):ju_ Tryz.prog 50 [s.x] s.x:=by obtain ⟨l,x,h⟩:=s;have hx:=h.ok A_;simp only at hl⊢;refine t3_ (sh:=[none]) (ls:=[x]) (c:=c50) (n:=300) (t:=t50) mo ov (by rcases h with rfl|⟨_,rfl⟩<;>rfl) (by simp only [okL,hx]) (p1_ hx) (λY _=>vy_ _) rfl (by kernel_rfl) λY hf hg=>?_;unfold t50;rcases h with rfl|⟨_,rfl⟩;refine vr_ (r:=.bool false) (by kernel_rfl) rfl (u9_ (t:=false) rfl (λh=>by cases h) (λ_=>?_));exact vr_ (N_ rl_ (by decide) (by decide) (SlV.v (enc:=k_) (w:=3) l) (by omega)) (r9_ A_ _) (uA_ rfl);exact vr_ (r:=.bool true) (by kernel_rfl) rfl (u9_ (t:=true) rfl (λ_=>uA_ rfl) (λh=>by cases h))
theorem yE_ (s:SV R_ 1) (hl:s.l.length<=1000000):ju_ Tryz.prog 121 [s.x] s.x:=by obtain ⟨l,x,h⟩:=s;have hx:=h.ok oH_;simp only at hl⊢;refine t3_ (sh:=[none]) (ls:=[x]) (c:=x7_) (n:=300) (t:=xK_) mo ov (by rcases h with rfl|⟨_,rfl⟩<;>rfl) (by simp only [okL,hx]) (p1_ hx) (λY _=>vy_ _) rfl (by kernel_rfl) λY hf hg=>?_;unfold xK_;rcases h with rfl|⟨_,rfl⟩;refine vr_ (r:=.bool false) (by kernel_rfl) rfl (u9_ (t:=false) rfl (λh=>by cases h) (λ_=>?_));exact vr_ (N_ xy_ (by decide) (by decide) (SlV.v (enc:=R_) (w:=1) l) (by omega)) (r9_ oH_ _) (uA_ rfl);exact vr_ (r:=.bool true) (by kernel_rfl) rfl (u9_ (t:=true) rfl (λ_=>uA_ rfl) (λh=>by cases h))
theorem yG_ (s:SV bt_ 5) (hl:s.l.length<=1000):ju_ Tryz.prog 124 [s.x] s.x:=by obtain ⟨l,x,h⟩:=s;have hx:=h.ok okT;simp only at hl⊢;refine t3_ (sh:=[none]) (ls:=[x]) (c:=ya_) (n:=300) (t:=xN_) mo ov (by rcases h with rfl|⟨_,rfl⟩<;>rfl) (by simp only [okL,hx]) (p1_ hx) (λY _=>vy_ _) rfl (by kernel_rfl) λY hf hg=>?_;unfold xN_;rcases h with rfl|⟨_,rfl⟩;refine vr_ (r:=.bool false) (by kernel_rfl) rfl (u9_ (t:=false) rfl (λh=>by cases h) (λ_=>?_));exact vr_ (N_ w8_ (by decide) (by decide) (SlV.v (enc:=bt_) (w:=5) l) (by omega)) (r9_ okT _) (uA_ rfl);exact vr_ (r:=.bool true) (by kernel_rfl) rfl (u9_ (t:=true) rfl (λ_=>uA_ rfl) (λh=>by cases h))
theorem yM_ (s:SV I_ 1) (hl:s.l.length<=1000):ju_ Tryz.prog 154 [s.x] s.x:=by obtain ⟨l,x,h⟩:=s;have hx:=h.ok okP;simp only at hl⊢;refine t3_ (sh:=[none]) (ls:=[x]) (c:=yf_) (n:=300) (t:=xW_) mo ov (by rcases h with rfl|⟨_,rfl⟩<;>rfl) (by simp only [okL,hx]) (p1_ hx) (λY _=>vy_ _) rfl (by kernel_rfl) λY hf hg=>?_;unfold xW_;rcases h with rfl|⟨_,rfl⟩;refine vr_ (r:=.bool false) (by kernel_rfl) rfl (u9_ (t:=false) rfl (λh=>by cases h) (λ_=>?_));exact vr_ (N_ vZ_ (by decide) (by decide) (SlV.v (enc:=I_) (w:=1) l) (by omega)) (r9_ okP _) (uA_ rfl);exact vr_ (r:=.bool true) (by kernel_rfl) rfl (u9_ (t:=true) rfl (λ_=>uA_ rfl) (λh=>by cases h))
theorem yF_ (s:SV g_ 15) (hl:s.l.length<=1000):CF Tryz.prog 123 wd_ [s.x] (λ_ ws=>ws=[s.x]):=by obtain ⟨l,x,h⟩:=s;have hx:=h.ok M_;simp only at hl⊢;refine vc_ (c:=x9_) (n:=300) (t:=xM_) mo ov rfl (λY _=>vy_ _) (by kernel_rfl) λY hf hg=>?_;unfold xM_;rcases h with rfl|⟨_,rfl⟩;refine vr_ (r:=.bool false) (by kernel_rfl) rfl (u9_ (t:=false) rfl (λh=>by cases h) (λ_=>?_));exact vr_ (N_ oo_ (by decide) (by decide) (SlV.v (enc:=g_) (w:=15) l) (by omega)) (r9_ M_ _) (VOK_fin (by show okL [dq_ g_ 15 l]=true;simp only [okL,r9_ M_]) rfl);exact vr_ (r:=.bool true) (by kernel_rfl) rfl (u9_ (t:=true) rfl (λ_=>VOK_fin rfl rfl) (λh=>by cases h))
theorem yJ_ (m:GM) (hm:m.Sm):ju_ Tryz.prog 144 [.agg (f_ m)] (.agg (f_ m)):=by have okm:=v_ m;refine t3_ (sh:=[some 12]) (ls:=f_ m) (c:=ye_) (n:=300) (t:=xV_) mo ov rfl okm (s_ okm) (λY _=>vy_ _) rfl (by kernel_rfl) λY hf hg=>?_;unfold xV_;refine uz_ (yM_ m.paths hm.1) rfl (by simp only [okL,m.paths.ok okP]) (uz_ (p50 m.vals hm.2) rfl (by simp only [okL,m.vals.ok A_]) (uA_ rfl))
theorem xF_ (r:GR) (hm:r.Sm):ju_ Tryz.prog 133 [.agg (encR r)] (.agg (encR r)):=by have okm:=r_ r;refine t3_ (sh:=[some 4]) (ls:=encR r) (c:=yc_) (n:=300) (t:=xT_) mo ov rfl okm (s_ okm) (λY _=>vy_ _) rfl (by kernel_rfl) λY hf hg=>?_;unfold xT_;refine uz_ (p49 r.addrs hm.1) rfl (by simp only [okL,r.addrs.ok okI]) (uz_ (p50 r.vals hm.2) rfl (by simp only [okL,r.vals.ok A_]) (uA_ rfl))
theorem iaM (s:SV f_ 12) {i:Nat} (h:i<s.l.length):(XOp.iaddr 42).run Tryz.prog [s.x,.int .i64 (i:Int)]=some (.vptr (bq_ f_ (s.l.drop i))):=s.h.ia (e:=54) Tryz.underlying42 (ti:=(Tryz.prog.info? 54).get!) (by kernel_rfl) (by kernel_rfl) D_ h .i64
theorem ldM {l:List GM} {i:Nat} (h:i<l.length):(XOp.load 54).run Tryz.prog [.vptr (bq_ f_ (l.drop i))]=some (.agg (f_ l[i])):=sS_ (ti:=(Tryz.prog.info? 54).get!) Tryz.underlying54 rfl (by kernel_rfl) (by kernel_rfl) D_ h
theorem iaR (s:SV encR 4) {i:Nat} (h:i<s.l.length):(XOp.iaddr 47).run Tryz.prog [s.x,.int .i64 (i:Int)]=some (.vptr (bq_ encR (s.l.drop i))):=s.h.ia (e:=51) Tryz.underlying47 (ti:=(Tryz.prog.info? 51).get!) (by kernel_rfl) (by kernel_rfl) uo_ h .i64
theorem ldR {l:List GR} {i:Nat} (h:i<l.length):(XOp.load 51).run Tryz.prog [.vptr (bq_ encR (l.drop i))]=some (.agg (encR l[i])):=sS_ (ti:=(Tryz.prog.info? 51).get!) Tryz.underlying51 rfl (by kernel_rfl) (by kernel_rfl) uo_ h
theorem h_ {α:Type} {l:List α} {i:Nat} (h:i<l.length):l.take (i+1)=l.take i++[l[i]]:=by rw [List.take_add_one,List.getElem?_eq_getElem h];rfl
theorem xD_ (s:SV f_ 12) (hl:s.l.length<=1000) (hm:∀m∈s.l,m.Sm):CF Tryz.prog 122 vM_ [s.x] (λ_ ws=>ws=[ct_ f_ 12 s.l]):=by
 have hx:=s.ok v_;refine vc_ (c:=x8_) (n:=300) (t:=xL_) mo ov rfl (λY _=>vy_ _) (by kernel_rfl) λY hf hg=>?_;unfold xL_;refine vr_ (s.h.len Tryz.underlying42) rfl ?_;refine uB_ (ι:=Nat) (λi=>[.int .i64 (i:Int),ct_ f_ 12 (s.l.take i)]) (λi=>i<=s.l.length) (λi=>s.l.length-i) 0 (Nat.zero_le _) rfl (λ_ _=>by simp only [okL,okC,ub_ v_]) (λi j _ _ h=>?_) (λi hi=>?_)
 .have h:=(List.cons.inj h).1;injection h with _ h
  omega
 refine vr_ (run_lss ..) rfl (u9_ rfl (λhc=>?_) (λhc=>?_));have hc:(i:Int)<(s.l.length:Int):=dT hc;have hc:i<s.l.length:=(by omega);refine vr_ (iaM s hc) (kN_ v_ _) (va_ (ldM hc) rfl (v_ _) (uz_ (yJ_ s.l[i] (hm _ (List.getElem_mem hc))) rfl (v_ _) ?_));refine vr_ (t6_ D_ (by decide) (by decide) (s.l.take i) s.l[i] (by rw [List.length_take];omega)) (ub_ v_ _) (vr_ (d_ (by omega) (by omega)) rfl (up_ rfl ⟨i+1,hc,?_,by omega⟩));rw [h_ hc];rfl;have hc:¬(i:Int)<(s.l.length:Int):=dF hc;have e:i=s.l.length:=(by omega);subst e;refine VOK_fin (by show okL [ct_ f_ 12 _]=true;simp only [okL,ub_ v_]) ?_;show [ct_ f_ 12 (s.l.take s.l.length)]=_;rw [List.take_length]
theorem xE_ (s:SV encR 4) (hl:s.l.length<=1000) (hm:∀m∈s.l,m.Sm):CF Tryz.prog 132 vN_ [s.x] (λ_ ws=>ws=[ct_ encR 4 s.l]):=by
 have hx:=s.ok r_;refine vc_ (c:=yb_) (n:=300) (t:=xS_) mo ov rfl (λY _=>vy_ _) (by kernel_rfl) λY hf hg=>?_;unfold xS_;refine vr_ (s.h.len Tryz.underlying47) rfl ?_;refine uB_ (ι:=Nat) (λi=>[.int .i64 (i:Int),ct_ encR 4 (s.l.take i)]) (λi=>i<=s.l.length) (λi=>s.l.length-i) 0 (Nat.zero_le _) rfl (λ_ _=>by simp only [okL,okC,ub_ r_]) (λi j _ _ h=>?_) (λi hi=>?_)
 .have h:=(List.cons.inj h).1;injection h with _ h
  omega
 refine vr_ (run_lss ..) rfl (u9_ rfl (λhc=>?_) (λhc=>?_));have hc:(i:Int)<(s.l.length:Int):=dT hc;have hc:i<s.l.length:=(by omega);refine vr_ (iaR s hc) (kN_ r_ _) (va_ (ldR hc) rfl (r_ _) (uz_ (xF_ s.l[i] (hm _ (List.getElem_mem hc))) rfl (r_ _) ?_));refine vr_ (t6_ uo_ (by decide) (by decide) (s.l.take i) s.l[i] (by rw [List.length_take];omega)) (ub_ r_ _) (vr_ (d_ (by omega) (by omega)) rfl (up_ rfl ⟨i+1,hc,?_,by omega⟩));rw [h_ hc];rfl;have hc:¬(i:Int)<(s.l.length:Int):=dF hc;have e:i=s.l.length:=(by omega);subst e;refine VOK_fin (by show okL [ct_ encR 4 _]=true;simp only [okL,ub_ r_]) ?_;show [ct_ encR 4 (s.l.take s.l.length)]=_;rw [List.take_length]
theorem p26 (s:SV encR 4) (hl:s.l.length<=1000) (hm:∀m∈s.l,m.Sm):ju_ Tryz.prog 26 [s.x] (ct_ encR 4 s.l):=by
 have hx:=s.ok r_;refine t3_ (sh:=[none]) (ls:=[s.x]) (c:=c26) (n:=300) (t:=t26) mo ov (by rcases s.h with h|⟨_,h⟩<;>rw [h]<;>rfl) (by simp only [okL,hx]) (p1_ (ub_ r_ _)) (λY _=>vy_ _) rfl (by kernel_rfl) λY hf hg=>?_;unfold t26;refine vr_ (s.h.len Tryz.underlying47) rfl ?_;refine uB_ (ι:=Nat) (λi=>[.int .i64 (i:Int),ct_ encR 4 (s.l.take i)]) (λi=>i<=s.l.length) (λi=>s.l.length-i) 0 (Nat.zero_le _) rfl (λ_ _=>by simp only [okL,okC,ub_ r_]) (λi j _ _ h=>?_) (λi hi=>?_)
 .have h:=(List.cons.inj h).1;injection h with _ h
  omega
 refine vr_ (run_lss ..) rfl (u9_ rfl (λhc=>?_) (λhc=>?_));have hc:(i:Int)<(s.l.length:Int):=dT hc;have hc:i<s.l.length:=(by omega);have hmi:=hm _ (List.getElem_mem hc);refine vr_ (iaR s hc) (kN_ r_ _) (va_ (ldR hc) rfl (r_ _) (uz_ (p49 s.l[i].addrs hmi.1) rfl (by simp only [okL,s.l[i].addrs.ok okI]) (uz_ (p50 s.l[i].vals hmi.2) rfl (by simp only [okL,s.l[i].vals.ok A_]) ?_)));refine vr_ (t6_ uo_ (by decide) (by decide) (s.l.take i) s.l[i] (by rw [List.length_take];omega)) (ub_ r_ _) (vr_ (d_ (by omega) (by omega)) rfl (up_ rfl ⟨i+1,hc,?_,by omega⟩));rw [h_ hc];rfl;have hc:¬(i:Int)<(s.l.length:Int):=dF hc;have e:i=s.l.length:=(by omega);subst e;refine uA_ ?_;show ct_ encR 4 (s.l.take s.l.length)=_;rw [List.take_length]
end Go.Proofs.YtijpblconliffaaGreatDoor.vars
set_option linter.unusedVariables false
set_option linter.unusedSimpArgs false
namespace Go.Sx
section
variable {P:Program} {t:TypeId} {ti:TypeInfo} {α:Type} {enc:α->List AV} {w:Nat}
theorem J_:∀(a xs b c:List AV),b.length=xs.length->c9_ a.length xs (a++(b++c))=some (a++(xs++c))
 |[],[],[],c,_=>by cases c<;>rfl
 |[],x::xs,y::b,c,h=>by have ih:=J_ [] xs b c (by simpa using h);simp only [List.nil_append,List.length_nil,List.cons_append]at ih⊢;simp only [c9_,ih]
 |[],x::xs,[],c,h=>by simp at h
 |[],[],y::b,c,h=>by simp at h
 |x::a,xs,b,c,h=>by simp only [List.cons_append,List.length_cons,c9_,J_ a xs b c h]
theorem vz_ (hw:∀a,(enc a).length=w) (l:List α) {i:Nat} (hi:i<l.length):∃a b,bq_ enc l=a++(enc l[i]++b)/\a.length=i*w/\∀x,bq_ enc (l.set i x)=a++(enc x++b):=by
 refine ⟨bq_ enc (l.take i),bq_ enc (l.drop (i+1)),?_,?_,λx=>?_⟩;have h1:l=l.take i++l[i]::l.drop (i+1):=(by rw [List.getElem_cons_drop,List.take_append_drop]);have h2:=congrArg (bq_ enc) h1;rw [dh_]at h2;exact h2
 .rw [bC_ hw,List.length_take];congr 1;omega
 rw [List.set_eq_take_append_cons_drop,if_pos hi,dh_];rfl
theorem run_stx (hw:∀a,(enc a).length=w) {l:List α} {i:Nat} (hi:i<l.length) {off:Nat} {v:AV} {xs p q r:List AV} {y:α} (hc:v.cells=xs) (ho:v≠ .opq) (hinf:P.info? t=some ti) (hs:ti.size=xs.length) (h1:a8_ xs=true)
  (he:enc l[i]=p++(q++r)) (hp:p.length=off) (hq:q.length=xs.length) (hy:enc y=p++(xs++r)) (k:IntKind):(XOp.stx t w off).run P [ct_ enc w l,.int k (i:Int),v]=some (ct_ enc w (l.set i y)):=by
 obtain ⟨a,b,e1,e2,e3⟩:=vz_ hw l hi;obtain ⟨x0,l',rfl⟩:∃x l',l=x::l':=by cases l with|nil=>simp at hi|cons x l'=>exact ⟨x,l',rfl⟩
 have cK_:∃z l'',(x0::l').set i y=z::l''/\l''.length=l'.length:=by
  cases i with
  |zero=>exact ⟨y,l',rfl,rfl⟩
  |succ i=>exact ⟨x0,l'.set i y,rfl,by simp⟩
 obtain ⟨z,l'',e4,e5⟩:=cK_;have hst:b9_ P (rz_ (bq_ enc (x0::l'))) t (.ptr 0 (i*w+off)) v=some (.tup [],(rz_ (bq_ enc (x0::l'))).set 0 (.cells (bq_ enc ((x0::l').set i y)))):=by
  have hg:(rz_ (bq_ enc (x0::l'))).get 0=some (.cells (bq_ enc (x0::l'))):=rfl;have hsa:c9_ (i*w+off) xs (bq_ enc (x0::l'))=some (bq_ enc ((x0::l').set i y)):=(by have:=J_ (a++p) xs q (r++b) hq;rw [List.length_append,e2,hp]at this;rw [e1,he,e3,hy];simpa [List.append_assoc]using this);have hb:Nat.beq xs.length ti.size=true:=(by rw [hs];exact Nat.beq_refl _);cases v with
  |opq=>exact absurd rfl ho
  |_=>simp only [b9_,hinf];simp only [hc,hb,h1,hg,hsa]
 show (match b9_ P (rz_ (bq_ enc (x0::l'))) t (.ptr 0 (Nat.add (Nat.mul i w) off)) v with
  |some r=>match r.2.get 0 with
   |some (.cells cs')=>some (AV.vsl (l'.length+1) w cs')
   |_=>none
  |none=>none)=_
 have e6:Nat.add (Nat.mul i w) off=i*w+off:=rfl;rw [e6,hst];have hg2:∀c:List AV,((rz_ (bq_ enc (x0::l'))).set 0 (.cells c)).get 0=some (.cells c):=λc=>rfl;simp only [hg2];rw [e4];show _=some (AV.vsl (l''.length+1) w (bq_ enc (z::l'')));rw [e5]
theorem uw_ {l:List α} {i:Nat} (hi:i<l.length) (k:IntKind):(XOp.inb).run P [ct_ enc w l,.int k (i:Int)]=some (.int .i64 (i:Int)):=by
 cases l with
 |nil=>simp at hi
 |cons x r=>
  show (match Sx.idx (i:Int) (r.length+1)with|some n=>some (AV.int .i64 (.ofNat n))|none=>none)=_;have hb:Nat.blt i (r.length+1)=true:=(by simpa [Nat.blt_eq]using hi);have:Sx.idx (i:Int) (r.length+1)=some i:=by show (match Nat.blt i (r.length+1)with|true=>some i|false=>none)=some i;rw [hb]
  rw [this];rfl
end
theorem X_:∀{l:List AV},okL l=true->a8_ l=true
 |[],_=>rfl
 |a::r,h=>by rw [aY_]at h;obtain ⟨h1,h2⟩:=aa_ h;have:a.one=true:=(by cases a<;>first|rfl|(simp [okC]at h1));simp only [a8_,this,X_ h2]
end Go.Sx
set_option linter.unusedVariables false
set_option linter.unusedSimpArgs false
namespace Go.Sx
section
variable {P:Program} {t:TypeId} {ti:TypeInfo} {α:Type} {enc:α->List AV} {w:Nat}
theorem wl_ {d:TypeDesc} (ht:P.underlying t=some d) (ha:lE_ d=false) (hw:∀a,(enc a).length=w) {l:List α} {i:Nat} (hi:i<l.length) {off:Nat} {v:AV} {p r:List AV} (he:enc l[i]=p++(v::r)) (hp:p.length=off) (k:IntKind):(XOp.ldx t w off).run P [ct_ enc w l,.int k (i:Int)]=some v:=by
 obtain ⟨a,b,e1,e2,_⟩:=vz_ hw l hi;obtain ⟨x0,l',rfl⟩:∃x l',l=x::l':=by cases l with|nil=>simp at hi|cons x l'=>exact ⟨x,l',rfl⟩
 show bg_ P (rz_ (bq_ enc (x0::l'))) t (.ptr 0 (i*w+off))=_;unfold bg_;simp only [ht,ha];have hg:(rz_ (bq_ enc (x0::l'))).get 0=some (.cells (bq_ enc (x0::l'))):=rfl;unfold aT_;simp only [hg];have hd:ai_ (i*w+off) (bq_ enc (x0::l'))=v::(r++b):=by rw [az_,e1,he,←e2,←hp];rw [show a++(p++v::r++b)=(a++p)++(v::(r++b)) by simp [List.append_assoc]];rw [←List.length_append,List.drop_left]
 rw [hd];rfl
theorem wm_ {d:TypeDesc} (ht:P.underlying t=some d) (ha:lE_ d=true) (hinf:P.info? t=some ti) (hs:ti.size=w) (hw:∀a,(enc a).length=w) {l:List α} {i:Nat} (hi:i<l.length) (k:IntKind):(XOp.ldx t w 0).run P [ct_ enc w l,.int k (i:Int)]=some (.agg (enc l[i])):=by
 obtain ⟨a,b,e1,e2,_⟩:=vz_ hw l hi;obtain ⟨x0,l',rfl⟩:∃x l',l=x::l':=by cases l with|nil=>simp at hi|cons x l'=>exact ⟨x,l',rfl⟩
 show bg_ P (rz_ (bq_ enc (x0::l'))) t (.ptr 0 (i*w+0))=_;unfold bg_;simp only [ht,ha,hinf];have hg:(rz_ (bq_ enc (x0::l'))).get 0=some (.cells (bq_ enc (x0::l'))):=rfl;unfold aT_;simp only [hg];have hd:ai_ (i*w+0) (bq_ enc (x0::l'))=enc (x0::l')[i]++b:=by rw [az_,e1,Nat.add_zero,←e2,List.drop_left]
 have hl:ti.size=(enc (x0::l')[i]).length:=by rw [hs,hw]
 rw [hd,hl,dp_]
end
end Go.Sx
set_option maxRecDepth 100000
set_option linter.unusedVariables false
set_option linter.unusedSimpArgs false
namespace Go.Proofs.YtijpblconliffaaGreatDoor.vars
open Go Go.Sx
def c89:VC:=⟨⟨[],[]⟩,[(121,[none]),(124,[none])],[(10003,[⟨[],[],0,0,[],[],[(1,4)]⟩]),(0,[⟨[(26,.slx 0 0 0),(1,.ptr 0 0),(24,.slx 2 15 1),(2,.ptr 1 0),(25,79)],[(0,[64,65,72,67,74,.slx 3 12 2,.slx 2 15 1,71]),(1,[.bool false,J 0,.nsl,.bool false,.nsl,.nsl,.nsl,J 0])],4,3,[⟨2,15,1,24,none⟩,⟨2,15,1,0,(some 6)⟩,⟨3,12,2,0,(some 5)⟩],[],[]⟩])],0,true,[(122,vM_),(123,wd_)]⟩
def t89:VT:=
 (.call 121 [66] 72 [none]
 (.callF 122 vM_ [68] 73
 (.cons 1
 (.callF 122 vM_ [69] 75
 (.cons 1
 (.callF 123 wd_ [70] 77
 (.cons 1
 (K Qm [78] 79
 (.loop 80 0 [J 0,78,76]
 (.cons 3
 (K Q2 [80,79] 83
 (.ite 83
 (K .inb [81,80] 84
 (.lt Zh [81,84] 85 (some 15)
 (.call 124 [99] 100 [none]
 (K .inb [81,80] 101
 (K (.stx 98 15 14) [81,101,100] 102
 (K Q0 [80,J 1] 103
 (.chk (.same 81 102)
 (.chk (.same 81 102)
 (.again 0 0 [103,102,82])))))))))
 (.done (.tup [J 0,64,65,72,67,74,82,81,71]))))
 .nil)))
 .nil))
 .nil))
 .nil)))
def c48:VC:=⟨⟨[],[]⟩,[(90,[(some 15)])],[(0,[⟨[(14,.slx 0 0 0),(2,73),(1,72),(3,.ptr 0 0),(12,.slx 2 15 1),(6,.ptr 1 0),(13,90)],[(0,[82,83,84,85,86,.slx 3 12 2,.slx 2 15 1,89]),(1,[.bool false,J 0,.nsl,.bool false,.nsl,.nsl,.nsl,J 0])],4,3,[⟨2,15,1,12,none⟩,⟨2,15,1,0,(some 6)⟩,⟨3,12,2,0,(some 5)⟩],[],[]⟩])],0,true,[(89,wv_)]⟩
def t48:VT:=
 (.callF 89 wv_ [64,65,66,67,68,69,70,71] 74
 (.cons 8
 (K Qm [88] 90
 (.loop 91 0 [J 0,88,87]
 (.cons 3
 (K Q2 [91,90] 94
 (.ite 94
 (K .inb [92,91] 95
 (.lt Zh [92,95] 96 (some 15)
 (K Qt [97,J 0] 111
 (.ite 111
 (K Qo [72] 112
 (K Q2 [97,112] 113
 (.ite 113
 (K Qu [72,97] 114
 (.lt Z4 [114] 115 (some 3)
 (.call 90 [.agg [96,97,98,99,100,101,102,103,104,105,106,107,108,109,110],.agg [115,116,117],73] 118 [(some 15)]
 (K .inb [92,91] 133
 (K (.stx 100 15 0) [92,133,.agg [118,119,120,121,122,123,124,125,126,127,128,129,130,131,132]] 134
 (K Q0 [91,J 1] 135
 (.chk (.same 92 134)
 (.chk (.same 92 134)
 (.again 0 0 [135,134,93])))))))))
 (K Q0 [91,J 1] 114
 (.again 0 0 [114,92,93])))))
 (K Q0 [91,J 1] 112
 (.again 0 0 [112,92,93]))))))
 (.done (.tup [J 0,82,83,84,85,86,93,92,89]))))
 .nil)))
 .nil))
def c25:VC:=⟨⟨[],[]⟩,[],[],0,true,[(48,wY_)]⟩
def t25:VT:=Cf 48 wY_ [64,65,66,67,68,69,70,71,.nsl,J 0] 72 8<|Dn [82,83,84,85,86,87,88,89]
def hN_ (s:GS):GS:={ s with inn:=.of s.inn.l,out:=.of s.out.l }
def RS (s:GS):Nat->List AV->Prop:=λ_ ws=>ws=i_ (hN_ s)
theorem wo_ (l:List GW) {i:Nat} (hi:i<l.length):l.set i l[i]=l:=List.set_getElem_self hi
theorem xo_ (s:SV g_ 15):(some s.x=some .nsl/\some s.x=some .nsl)\/∃n z cs ds,some s.x=some (.vsl n z cs)/\some s.x=some (.vsl n z ds):=by rcases s.h with h|⟨_,h⟩;rw [h];exact .inr ⟨_,_,_,_,rfl,rfl⟩;rw [h];exact .inl ⟨rfl,rfl⟩
theorem xb_ {α:Type} {enc:α->List AV} {w:Nat} (s:SV enc w) {i:Nat} (hi:i<s.l.length):s.x=ct_ enc w s.l:=s.h.eq (λe=>by rw [e]at hi;cases hi)
theorem wx_ (s:SV g_ 15) {i:Nat} (hi:i<s.l.length):(XOp.inb).run Tryz.prog [s.x,.int .i64 (i:Int)]=some (.int .i64 (i:Int)):=by rw [xb_ s hi];exact uw_ (enc:=g_) hi .i64
theorem w7_ (s:SV g_ 15) {i:Nat} (hi:i<s.l.length):(XOp.ldx 100 15 0).run Tryz.prog [s.x,.int .i64 (i:Int)]=some (.agg (g_ s.l[i])):=by rw [xb_ s hi];exact wm_ (ti:=(Tryz.prog.info? 100).get!) Tryz.underlying100 rfl (by kernel_rfl) (by kernel_rfl) oo_ hi .i64
theorem yU_ (s:SV g_ 15) {i:Nat} (hi:i<s.l.length):(XOp.stx 98 15 14).run Tryz.prog [s.x,.int .i64 (i:Int),s.l[i].queue.x]=some s.x:=by
 have hq:=s.l[i].queue.ok okT;have h:=run_stx (P:=Tryz.prog) (t:=98) (ti:=(Tryz.prog.info? 98).get!) oo_ hi (off:=14) (v:=s.l[i].queue.x) (p:=(g_ s.l[i]).take 14) (q:=[s.l[i].queue.x]) (r:=[]) (xs:=[s.l[i].queue.x]) (y:=s.l[i])
  (by rcases s.l[i].queue.h with h|⟨_,h⟩<;>rw [h]<;>rfl) (λe=>by rw [e]at hq;cases hq) (by kernel_rfl) (by kernel_rfl) (X_ (by simp only [okL,hq])) rfl rfl rfl rfl .i64
 rw [wo_ _ hi,←xb_ s hi]at h;exact h
theorem p89 (s:GS) (hs:s.Sm):CF Tryz.prog 89 wv_ (i_ s) (RS s):=by
 have okw:=s.subs.ok M_;refine vc_ (c:=c89) (n:=300) (t:=t89) mo ov rfl (λY _=>vy_ _) (by kernel_rfl) λY hf hg=>?_;unfold t89;refine uz_ (yE_ s.b hs.b) rfl (by simp only [okL,s.b.ok oH_]) ?_;refine a_ (xD_ s.inn hs.inn hs.inM) rfl (by simp only [okL,s.inn.ok v_]) ⟨?_,trivial⟩;rintro ws rfl;refine a_ (xD_ s.out hs.out hs.outM) rfl (by simp only [okL,s.out.ok v_]) ⟨?_,trivial⟩;rintro ws rfl;refine a_ (yF_ s.subs hs.subs) rfl (by simp only [okL,okw]) ⟨?_,trivial⟩;rintro ws rfl;have hl:=hs.subs;refine vr_ (s.subs.h.len Tryz.underlying43) rfl ?_;refine uB_ (ι:=Nat) (λi=>[.int .i64 (i:Int),s.subs.x,ct_ f_ 12 s.out.l]) (λi=>i<=s.subs.l.length) (λi=>s.subs.l.length-i) 0 (Nat.zero_le _) rfl (λ_ _=>by simp only [okL,okC,okw,ub_ v_]) (λi j _ _ h=>?_) (λi hi=>?_)
 .have h:=(List.cons.inj h).1;injection h with _ h
  omega
 refine vr_ (run_lss ..) rfl (u9_ rfl (λhc=>?_) (λhc=>?_));have hc:(i:Int)<(s.subs.l.length:Int):=dT hc;have hc:i<s.subs.l.length:=(by omega);have hq:=hs.subM _ (List.getElem_mem hc);refine vr_ (wx_ s.subs hc) rfl (va_ (w7_ s.subs hc) rfl (M_ _) (uz_ (yG_ s.subs.l[i].queue hq) rfl (by simp only [okL,s.subs.l[i].queue.ok okT]) ?_));exact vr_ (wx_ s.subs hc) rfl (vr_ (yU_ s.subs hc) okw (vr_ (d_ (by omega) (by omega)) rfl (u8_ (xo_ s.subs) (u8_ (xo_ s.subs) (up_ rfl ⟨i+1,hc,rfl,by omega⟩)))));exact VOK_fin (okS (hN_ s)) rfl
theorem p48 (s:GS) (hs:s.Sm) (now:Int):CF Tryz.prog 48 wY_ (i_ s++[.nsl,.int .i64 now]) (RS s):=by
 have okw:=s.subs.ok M_;refine vc_ (c:=c48) (n:=300) (t:=t48) mo ov rfl (λY _=>vy_ _) (by kernel_rfl) λY hf hg=>?_;unfold t48;refine a_ (p89 s hs) rfl (okS s) ⟨?_,trivial⟩;rintro ws rfl;have hl:=hs.subs;refine vr_ (s.subs.h.len Tryz.underlying43) rfl ?_;refine uB_ (ι:=Nat) (λi=>[.int .i64 (i:Int),s.subs.x,ct_ f_ 12 s.out.l]) (λi=>i<=s.subs.l.length) (λi=>s.subs.l.length-i) 0 (Nat.zero_le _) rfl (λ_ _=>by simp only [okL,okC,okw,ub_ v_]) (λi j _ _ h=>?_) (λi hi=>?_)
 .have h:=(List.cons.inj h).1;injection h with _ h
  omega
 refine vr_ (run_lss ..) rfl (u9_ rfl (λhc=>?_) (λhc=>?_));have hc:(i:Int)<(s.subs.l.length:Int):=dT hc;have hc:i<s.subs.l.length:=(by omega);refine vr_ (wx_ s.subs hc) rfl (va_ (w7_ s.subs hc) rfl (M_ _) (vr_ (run_geq ..) rfl (u9_ rfl (λha=>?_) (λ_=>?_))));have ha:(0:Int)<=s.subs.l[i].addr:=dT ha;refine vr_ (r:=.int .i64 0) (by kernel_rfl) rfl (vr_ (run_lss ..) rfl (u9_ rfl (λhb=>?_) (λ_=>?_)));have hb:s.subs.l[i].addr<0:=dT hb;omega;exact vr_ (d_ (by omega) (by omega)) rfl (up_ rfl ⟨i+1,hc,rfl,by omega⟩);exact vr_ (d_ (by omega) (by omega)) rfl (up_ rfl ⟨i+1,hc,rfl,by omega⟩);exact VOK_fin (okS (hN_ s)) rfl
theorem p25 (s:GS) (hs:s.Sm):CF Tryz.prog 25 wX_ (i_ s) (RS s):=by refine vc_ (c:=c25) (n:=300) (t:=t25) mo ov rfl (λY _=>vy_ _) (by kernel_rfl) λY hf hg=>?_;unfold t25;refine a_ (p48 s hs 0) rfl (kN_.okL_join (okS s) rfl) ⟨?_,trivial⟩;rintro ws rfl;exact VOK_fin (okS (hN_ s)) rfl
end Go.Proofs.YtijpblconliffaaGreatDoor.vars
