/-
  A symbol as a number, a number as a value: short names for trees.
-/
import Derived.Test.YtngajicbldemgaaGreatDoorSyK
import Derived.Test.YtngajicbldemgaaGreatDoorRows
import Derived.KernelRfl
namespace Go.Proofs.YtngajicbldemgaaGreatDoor.vars
open Go Go.Sx
instance symN (n:Nat):OfNat AV n:=⟨.sym n⟩
abbrev J (n:Int):AV:=.int .i64 n
abbrev K (o:XOp) (a:List AV) (i:Nat) (t:VT):VT:=.lt o a i none t
abbrev Q0:XOp:=.conv 23 9
abbrev Li (o:XOp) (a:List AV) (n:Nat) (t:VT):VT:=.lt o a n none t
abbrev It (o:XOp) (a:List AV) (n:Nat) (A B:VT):VT:=.lt o a n none (.ite n A B)
abbrev Iq (i:Nat) (k:Int) (n:Nat) (A B:VT):VT:=.lt Q0 [.sym i,J k] n none (.ite n A B)
abbrev Dn (l:List AV):VT:=.done (.tup (J 0::l))
abbrev Cf (f:FuncId) (t:FT) (h:List AV) (n k:Nat) (b:VT):VT:=.callF f t h n (.cons k b .nil)
abbrev Q1:XOp:=.len 23
abbrev Q2:XOp:=.bin .eql 3 false true
abbrev Q3:XOp:=.bin .eql 9 false false
abbrev Q4:XOp:=.un .not
abbrev Q5:XOp:=.bin .add 9 false false
abbrev Q6:XOp:=.app 1 1
abbrev Q7:XOp:=.bin .add 3 false true
abbrev Q8:XOp:=.len 33
abbrev Q9:XOp:=.iaddr 33
abbrev Qa:XOp:=.load 29
abbrev Qb:XOp:=.bin .eql 3 false false
abbrev Qc:XOp:=.bin .eql 2 false false
abbrev Qd:XOp:=.bin .lss 3 false false
abbrev Qe:XOp:=.slc 23 false true
abbrev Qf:XOp:=.bin .sub 3 false false
abbrev Qg:XOp:=.bin .gtr 3 false true
abbrev Qh:XOp:=.bin .eql 2 false true
abbrev Qi:XOp:=.bin .sub 3 false true
abbrev Qj:XOp:=.bin .lss 3 false true
abbrev Qk:XOp:=.bin .geq 2 false false
abbrev Ql:XOp:=.bin .sub 2 false false
abbrev Qm:XOp:=.iaddr 23
abbrev Qp:XOp:=.iaddr 77
abbrev Qr:XOp:=.bin .neq 105 false true
abbrev Qs:XOp:=.conv 2 108
abbrev Qt:XOp:=.conv 108 2
abbrev Qu:XOp:=.conv 2 21
abbrev Qv:XOp:=.conv 21 2
abbrev Qw:XOp:=.conv 3 5
abbrev Qx:XOp:=.app 7 72
abbrev Qy:XOp:=.bin .add 3 true false
abbrev Qz:XOp:=.bin .neq 3 false false
abbrev Z0:XOp:=.mkx 1 1 [.int .u8 0]
abbrev Z1:XOp:=.slc 23 true false
abbrev Z2:XOp:=.bin .geq 3 false true
abbrev Z3:XOp:=.bin .mul 3 true false
abbrev Z4:XOp:=.bin .neq 24 false false
abbrev Z7:XOp:=.bin .eql 105 false false
abbrev Z8:XOp:=.bin .rem 2 false false
abbrev Z9:XOp:=.bin .lss 2 false true
abbrev Za:XOp:=.bin .add 2 false false
end Go.Proofs.YtngajicbldemgaaGreatDoor.vars
set_option linter.unusedVariables false
namespace Go.Proofs.YtngajicbldemgaaGreatDoor.vars
open Go Go.Sx
def hs:Nat->Nat->List AV
 |_,0=>[]
 |j,n+1=>.slx j 0 0::hs (j+1) n
def rd (a b:AV):Nat×List AV:=(0,[a,b])
def ft28:FT:=⟨1,⟨[(0,.ptr 0 0),(1,.slx 2 0 0)],[rd (.slx 0 0 0) (.slx 1 0 0)],1,3,[],[],[]⟩,[(false,⟨[(0,.slx 0 0 0)],[rd (.slx 1 0 0) (.slx 2 0 0)],1,3,[],[],[]⟩)]⟩
def ft31:FT:=⟨1,⟨[(0,.ptr 0 0)],[rd (.slx 0 0 0) (.slx 1 0 0)],1,2,[],[],[]⟩,[(false,⟨[(0,.agg (hs 0 3))],[rd (.slx 3 0 0) (.slx 4 0 0)],1,5,[],[],[]⟩)]⟩
def ft30:FT:=⟨1,⟨[(0,.ptr 0 0),(1,.slx 2 0 0)],[rd (.slx 0 0 0) (.slx 1 0 0)],1,3,[],[],[]⟩,[(false,⟨[(0,.slx 0 0 0)],[rd (.slx 1 0 0) (.slx 2 0 0)],1,3,[],[],[]⟩)]⟩
def ft20:FT:=⟨1,⟨[(0,.ptr 0 0)],[rd (.slx 0 0 0) (.slx 1 0 0)],1,2,[],[],[]⟩,[(false,⟨[(0,.tup [.agg (hs 0 7),.slx 7 0 0])],[rd (.slx 8 0 0) (.slx 9 0 0)],1,10,[],[],[]⟩)]⟩
end Go.Proofs.YtngajicbldemgaaGreatDoor.vars
set_option linter.unusedVariables false
namespace Go.Proofs.YtngajicbldemgaaGreatDoor.vars
def l_:Nat->List UInt8->Nat
 |v,[]=>v
 |v,c::r=>l_ (v*256+c.toNat) r
def j_ (v:Int):Nat->List UInt8
 |0=>[]
 |n+1=>UInt8.ofNat ((v/(256^n:Nat))%256).toNat::j_ v n
structure PV where
 k:Nat
 i:Int
 f:Nat
structure PS where
 k:Nat
 a:UInt8
 n:Nat
 b:Option (List UInt8)
 v:PV
def v0:PV:=⟨0,0,0⟩
def nan (u:Nat):Bool:=decide (9218868437227405312<u%9223372036854775808)
def H_ (n:Nat) (m:Nat):Int:=if n<m then (n:Int)else (n:Int)-2*m
def q_ (k:Nat):Nat:=match k with
 |1=>1
 |2=>2
 |3=>4
 |4=>8
 |5=>8
 |_=>0
def rv_ (k u:Nat):PV:=match k with
 |1=>⟨1,u,0⟩
 |2=>⟨2,H_ u 32768,0⟩
 |3=>⟨3,H_ u 2147483648,0⟩
 |4=>⟨4,H_ u 9223372036854775808,0⟩
 |5=>⟨5,0,u⟩
 |k=>⟨k,0,0⟩
def okN (k u:Nat):Bool:=match k with
 |1=>decide (u<=1)
 |2=>true
 |3=>true
 |4=>true
 |5=> !nan u||decide (u=9221120237041090561)
 |_=>false
def t_:List UInt8->Option (PV×List UInt8)
 |[]=>none
 |k::r=>if q_ k.toNat<=r.length/\okN k.toNat (l_ 0 (r.take (q_ k.toNat)))=true then some (rv_ k.toNat (l_ 0 (r.take (q_ k.toNat))),r.drop (q_ k.toNat))else none
def h_ (k:Nat) (a:UInt8) (r:List UInt8):Option (PS×List UInt8):=
 if k=3 then
  if 2<=r.length/\l_ 0 (r.take 2)<=(r.drop 2).length then some (⟨3,a,0,some ((r.drop 2).take (l_ 0 (r.take 2))),v0⟩,(r.drop 2).drop (l_ 0 (r.take 2)))else none
 else if k=6 then
  if 4<=r.length then some (⟨6,a,l_ 0 (r.take 4),none,v0⟩,r.drop 4)else none
 else if k=8 then
  match t_ r with
  |some (v,r')=>some (⟨8,a,0,none,v⟩,r')
  |none=>none
 else some (⟨k,a,0,none,v0⟩,r)
theorem v0_ {l r:List UInt8} {v:PV} (h:t_ l=some (v,r)):r.length<l.length:=by
 cases l with
 |nil=>cases h
 |cons k l=>
  have h:(if q_ k.toNat<=l.length/\okN k.toNat (l_ 0 (l.take (q_ k.toNat)))=true then some (rv_ k.toNat (l_ 0 (l.take (q_ k.toNat))),l.drop (q_ k.toNat))else none)=some (v,r):=h;split at h
  .injection h with h
   injection h with _ h
   rw [←h,List.length_drop,List.length_cons];omega
  cases h
theorem F_ {k:Nat} {a:UInt8} {l r:List UInt8} {s:PS} (h:h_ k a l=some (s,r)):r.length<=l.length:=by
 unfold h_ at h;split at h
 .split at h
  .injection h with h
   injection h with _ h
   rw [←h,List.length_drop,List.length_drop];omega
  cases h
 split at h
 .split at h
  .injection h with h
   injection h with _ h
   rw [←h,List.length_drop];omega
  cases h
 split at h;split at h;rename_i hv;cases h;have:=v0_ hv;omega;cases h;cases h;omega
def d_:List UInt8->List PS
 |[]=>[]
 |k::r=>if k.toNat%9=0 then d_ r else match r with
  |[]=>[]
  |a::r=>match h:h_ (k.toNat%9) a r with
   |none=>[]
   |some (s,r')=>s::d_ r'
termination_by l=>l.length
decreasing_by
 simp;have:=F_ h;simp;omega
def I_ (v:PV):List UInt8:=UInt8.ofNat v.k::j_ (if v.k=5 then (if nan v.f then 9221120237041090561 else (v.f:Int))else v.i) (q_ v.k)
def m_ (s:PS):List UInt8:=
 if s.k=3 then j_ ((s.b.getD []).length:Int) 2++s.b.getD []
 else if s.k=6 then j_ s.n 4
 else if s.k=8 then I_ s.v
 else []
def i_ (s:PS):List UInt8:=UInt8.ofNat s.k::s.a::m_ s
def VOk (v:PV):Prop:=∃u,u<256^q_ v.k/\okN v.k u=true/\v=rv_ v.k u
structure SOk (s:PS):Prop where
 k:1<=s.k/\s.k<=8
 n:if s.k=6 then s.n<4294967296 else s.n=0
 b:if s.k=3 then ∃l,s.b=some l/\l.length<65536 else s.b=none
 v:if s.k=8 then VOk s.v else s.v=v0
theorem P_:∀(l:List UInt8) (v:Nat),l_ v l=v*256^l.length+l_ 0 l
 |[],v=>by simp [l_]
 |c::r,v=>by simp only [l_,List.length_cons];rw [P_ r (v*256+c.toNat),P_ r (0*256+c.toNat),Nat.pow_succ,Nat.add_mul,Nat.zero_mul,Nat.zero_add,Nat.mul_assoc,Nat.mul_comm 256 (256^r.length)];omega
theorem r_:∀(l:List UInt8),l_ 0 l<256^l.length
 |[]=>by simp [l_]
 |c::r=>by have:=r_ r;have hc:=UInt8.toNat_lt c;simp only [l_,List.length_cons];rw [P_,Nat.pow_succ,Nat.zero_mul,Nat.zero_add];have:c.toNat*256^r.length<=255*256^r.length:=Nat.mul_le_mul_right _ (by omega);omega
theorem c_ (v:Int):∀n,(j_ v n).length=n
 |0=>rfl
 |n+1=>by simp [j_,c_ v n]
theorem b1_ {x:Int} (h0:0<=x) (h1:x<256):((UInt8.ofNat x.toNat).toNat:Int)=x:=by rw [UInt8.toNat_ofNat',Nat.mod_eq_of_lt (by omega),Int.toNat_of_nonneg h0]
theorem uD_ (v P:Int) (hP:0<P):v%(P*256)=v%P+P*((v/P)%256):=by
 have h1:=Int.emod_add_mul_ediv v P;have h2:=Int.emod_add_mul_ediv (v/P) 256;have h3:=Int.emod_nonneg v (show P≠0 by omega);have h4:=Int.emod_lt_of_pos v hP;have h5:=Int.emod_nonneg (v/P) (show (256:Int)≠0 by decide);have h6:=Int.emod_lt_of_pos (v/P) (show (0:Int)<256 by decide);have e:v=(v%P+P*((v/P)%256))+(P*256)*((v/P)/256):=by have:P*(v/P)=P*((v/P)%256)+P*256*((v/P)/256):=(by rw [Int.mul_assoc,←Int.mul_add,h2]);omega
 have hle:P*((v/P)%256)<=P*255:=Int.mul_le_mul_of_nonneg_left (by omega) (by omega);have hge:0<=P*((v/P)%256):=Int.mul_nonneg (by omega) h5;have hlt:v%P+P*((v/P)%256)<P*256:=by omega
 conv=>lhs;rw [e]
 rw [Int.add_mul_emod_self_left,Int.emod_eq_of_lt (by omega) hlt]
theorem D_ (v:Int):∀n,(l_ 0 (j_ v n):Int)=v%(256^n:Nat)
 |0=>by simp [j_,l_]
 |n+1=>by have ih:=D_ v n;have h0:0<=(v/(256^n:Nat))%256:=Int.emod_nonneg _ (by decide);have h1:(v/(256^n:Nat))%256<256:=Int.emod_lt_of_pos _ (by decide);show ((l_ (0*256+(UInt8.ofNat ((v/(256^n:Nat))%256).toNat).toNat) (j_ v n):Nat):Int)=_;rw [P_,c_,Nat.zero_mul,Nat.zero_add,Int.natCast_add,Int.natCast_mul,b1_ h0 h1,ih,Nat.pow_succ,Int.natCast_mul];have hP:0<((256^n:Nat):Int):=(by have:=Nat.pow_pos (n:=n) (show 0<256 by decide);omega);rw [show ((256:Nat):Int)=256 from rfl,uD_ v _ hP,Int.mul_comm (v/_%256)];omega
theorem M_:∀(l:List UInt8) (v:Int) (q:Int),v=(l_ 0 l:Int)+q*(256^l.length:Nat)->j_ v l.length=l
 |[],v,q,h=>rfl
 |c::r,v,q,h=>by
  have hc:=UInt8.toNat_lt c;have hr:=r_ r;have hP:0<((256^r.length:Nat):Int):=(by have:=Nat.pow_pos (n:=r.length) (show 0<256 by decide);omega);have e:v=(l_ 0 r:Int)+((256^r.length:Nat):Int)*((c.toNat:Int)+256*q):=(by rw [h];show ((l_ (0*256+c.toNat) r:Nat):Int)+q*((256^(r.length+1):Nat):Int)=_;rw [P_,Nat.zero_mul,Nat.zero_add,Nat.pow_succ,Int.natCast_add,Int.natCast_mul,Int.natCast_mul,Int.mul_add];rw [show ((256:Nat):Int)=256 from rfl,Int.mul_comm (c.toNat:Int),Int.mul_comm q,Int.mul_assoc];omega);have hd:v/((256^r.length:Nat):Int)=(c.toNat:Int)+256*q:=(by rw [e,Int.add_mul_ediv_left _ _ (by omega),Int.ediv_eq_zero_of_lt (by omega) (by omega),Int.zero_add]);show UInt8.ofNat ((v/((256^r.length:Nat):Int))%256).toNat::j_ v r.length=c::r;rw [hd,M_ r v ((c.toNat:Int)+256*q) (by rw [e,Int.mul_comm])]
  congr 1
  rw [Int.add_mul_emod_self_left,Int.emod_eq_of_lt (by omega) (by omega)];simp
theorem S_ {α:Type} {n:Nat} {l r:List α} (h:l.length=n):(l++r).take n=l:=by rw [←h,List.take_left]
theorem B_ {α:Type} {n:Nat} {l r:List α} (h:l.length=n):(l++r).drop n=r:=by rw [←h,List.drop_left]
theorem E_ {k:Nat} (h:k<256):(UInt8.ofNat k).toNat=k:=by rw [UInt8.toNat_ofNat',Nat.mod_eq_of_lt h]
def p_ (v:PV):Int:=if v.k=5 then (if nan v.f then 9221120237041090561 else (v.f:Int))else v.i
theorem wD_ (k u:Nat):(rv_ k u).k=k:=by unfold rv_;split<;>rfl
theorem kinds {k u:Nat} (h:okN k u=true):k=1\/k=2\/k=3\/k=4\/k=5:=by unfold okN at h;split at h<;>simp_all
theorem tv_ {k u:Nat} (hu:u<256^q_ k) (h:okN k u=true):∃q:Int,p_ (rv_ k u)=(u:Int)+q*((256^q_ k:Nat):Int):=by
 have sg:∀m:Nat,∃q:Int,H_ u m=(u:Int)+q*((2*m:Nat):Int):=λm=>by unfold H_;split;exact ⟨0,by omega⟩;exact ⟨-1,by omega⟩
 rcases kinds h with rfl|rfl|rfl|rfl|rfl;exact ⟨0,by show (u:Int)=_;omega⟩;exact sg 32768;exact sg 2147483648;exact sg 9223372036854775808
 .refine ⟨0,?_⟩;show (if nan u=true then (9221120237041090561:Int)else (u:Int))=_;have h:(!nan u||decide (u=9221120237041090561))=true:=h;cases hn:nan u with
  |false=>rw [if_neg (by decide)];omega
  |true=>rw [hn]at h;have:u=9221120237041090561:=(by simpa using h);rw [if_pos rfl];omega
theorem T_ (v:PV):I_ v=UInt8.ofNat v.k::j_ (p_ v) (q_ v.k):=rfl
theorem y_ (k:UInt8) (r:List UInt8):t_ (k::r)=if q_ k.toNat<=r.length/\okN k.toNat (l_ 0 (r.take (q_ k.toNat)))=true then some (rv_ k.toNat (l_ 0 (r.take (q_ k.toNat))),r.drop (q_ k.toNat))else none:=rfl
theorem vi_ {v:PV} (h:VOk v) (r:List UInt8):t_ (I_ v++r)=some (v,r):=by
 obtain ⟨u,hu,hok,hv⟩:=h;obtain ⟨q,hq⟩:=tv_ hu hok;have hk:(UInt8.ofNat v.k).toNat=v.k:=E_ (by rcases kinds hok with h|h|h|h|h<;>omega);have hl:=c_ (p_ v) (q_ v.k);rw [←hv]at hq;have hn:l_ 0 (j_ (p_ v) (q_ v.k))=u:=by have h1:=(D_ (p_ v) (q_ v.k)).trans (congrArg (· %((256^q_ v.k:Nat):Int)) hq);have h2:((u:Int)+q*((256^q_ v.k:Nat):Int))%((256^q_ v.k:Nat):Int)=u:=(by rw [Int.add_mul_emod_self_right,Int.emod_eq_of_lt (by omega) (by omega)]);have h3:(l_ 0 (j_ (p_ v) (q_ v.k)):Int)=u:=h1.trans h2;omega
 rw [T_,List.cons_append,y_,hk,S_ hl,B_ hl,hn,if_pos ⟨by rw [List.length_append,hl];omega,hok⟩,←hv]
theorem ut_ {l r:List UInt8} {v:PV} (h:t_ l=some (v,r)):VOk v/\l=I_ v++r:=by
 cases l with
 |nil=>cases h
 |cons k l=>
  rw [y_]at h;split at h
  .rename_i hc;obtain ⟨hle,hok⟩:=hc;injection h with h
   injection h with h1 h2
   have hlen:(l.take (q_ k.toNat)).length=q_ k.toNat:=(by rw [List.length_take];omega);have hlt:=r_ (l.take (q_ k.toNat));rw [hlen]at hlt;have hkv:v.k=k.toNat:=(by rw [←h1,wD_]);refine ⟨⟨_,by rw [hkv];exact hlt,by rw [hkv];exact hok,by rw [hkv];exact h1.symm⟩,?_⟩;obtain ⟨q,hq⟩:=tv_ hlt hok;rw [h1]at hq;have hb:=M_ (l.take (q_ k.toNat)) (p_ v) q (by rw [hlen];exact hq);rw [hlen]at hb;rw [T_,hkv,hb,List.cons_append,←h2,List.take_append_drop];simp
  cases h
theorem xt_ {n:Nat} (h:n<65536):l_ 0 (j_ (n:Int) 2)=n:=by have:=D_ (n:Int) 2;rw [Int.emod_eq_of_lt (by omega) (by omega)]at this;omega
theorem xu_ {n:Nat} (h:n<4294967296):l_ 0 (j_ (n:Int) 4)=n:=by have:=D_ (n:Int) 4;rw [Int.emod_eq_of_lt (by omega) (by omega)]at this;omega
theorem s1_ {s:PS} (h:SOk s) (r:List UInt8):h_ s.k s.a (m_ s++r)=some (s,r):=by obtain ⟨k,a,n,b,v⟩:=s;obtain ⟨hk,hn,hb,hv⟩:=h;unfold h_ m_;simp only at hk hn hb hv⊢;by_cases h3:k=3;subst h3;simp only [if_true,Nat.reduceEqDiff,if_false]at hn hb hv⊢;obtain ⟨l,rfl,hl⟩:=hb;subst hn hv;have h2:=c_ (l.length:Int) 2;simp only [Option.getD_some,List.append_assoc];rw [S_ h2,B_ h2,xt_ hl,if_pos ⟨by simp only [List.length_append,h2];omega,by simp only [List.length_append];omega⟩,S_ rfl,B_ rfl];by_cases h6:k=6;subst h6;simp only [if_true,Nat.reduceEqDiff,if_false]at hn hb hv⊢;subst hb hv;have h4:=c_ (n:Int) 4;rw [S_ h4,B_ h4,xu_ hn,if_pos (by simp only [List.length_append,h4];omega)];by_cases h8:k=8;subst h8;simp only [if_true,Nat.reduceEqDiff,if_false]at hn hb hv⊢;subst hb hn;rw [vi_ hv];simp only [h3,h6,h8,if_false]at hn hb hv⊢;subst hb hn hv;rfl
theorem qZ_ {k:Nat} {a:UInt8} {l r:List UInt8} {s:PS} (hk:1<=k/\k<=8) (h:h_ k a l=some (s,r)):SOk s/\s.k=k/\s.a=a/\l=m_ s++r:=by
 unfold h_ at h;by_cases h3:k=3
 .subst h3;simp only [if_true]at h;split at h
  .rename_i hc;injection h with h
   injection h with h1 h2
   subst h1;have ht:(l.take 2).length=2:=(by rw [List.length_take];omega);have hlt:=r_ (l.take 2);rw [ht]at hlt;have hl:((l.drop 2).take (l_ 0 (l.take 2))).length=l_ 0 (l.take 2):=(by rw [List.length_take];omega);refine ⟨⟨⟨(by decide:1<=3),(by decide:3<=8)⟩,rfl,⟨_,rfl,by rw [hl];omega⟩,rfl⟩,rfl,rfl,?_⟩;show l=j_ ((((l.drop 2).take (l_ 0 (l.take 2)))).length:Int) 2++(l.drop 2).take (l_ 0 (l.take 2))++r;have hb:=M_ (l.take 2) (l_ 0 (l.take 2):Int) 0 (by omega);rw [ht]at hb;rw [hl,hb,←h2,List.append_assoc,List.take_append_drop,List.take_append_drop]
  cases h
 by_cases h6:k=6
 .subst h6;simp only [if_true,Nat.reduceEqDiff,if_false]at h;split at h
  .rename_i hc;injection h with h
   injection h with h1 h2
   subst h1;have ht:(l.take 4).length=4:=(by rw [List.length_take];omega);have hlt:=r_ (l.take 4);rw [ht]at hlt;refine ⟨⟨⟨(by decide:1<=6),(by decide:6<=8)⟩,by show l_ 0 (l.take 4)<4294967296;omega,rfl,rfl⟩,rfl,rfl,?_⟩;show l=j_ (l_ 0 (l.take 4):Int) 4++r;have hb:=M_ (l.take 4) (l_ 0 (l.take 4):Int) 0 (by omega);rw [ht]at hb;rw [hb,←h2,List.take_append_drop]
  cases h
 by_cases h8:k=8
 .subst h8;simp only [if_true,Nat.reduceEqDiff,if_false]at h;split at h
  .rename_i v r' hv;injection h with h
   injection h with h1 h2
   subst h1 h2;obtain ⟨g1,g2⟩:=ut_ hv;exact ⟨⟨⟨(by decide:1<=8),(by decide:8<=8)⟩,rfl,rfl,g1⟩,rfl,rfl,g2⟩
  cases h
 .simp only [h3,h6,h8,if_false]at h;injection h with h
  injection h with h1 h2
  subst h1 h2;refine ⟨⟨hk,by simp only [h6,if_false],by simp only [h3,if_false],by simp only [h8,if_false]⟩,rfl,rfl,?_⟩;unfold m_;simp only [h3,h6,h8,if_false,List.nil_append]
theorem W_ {k:UInt8} {r:List UInt8} (h:k.toNat%9=0):d_ (k::r)=d_ r:=by rw [d_.eq_def];simp only [h,if_true]
theorem eq_ {k:UInt8} (h:k.toNat%9≠0):d_ [k]=[]:=by rw [d_.eq_def];simp only [h,if_false]
theorem C_ {k a:UInt8} {r:List UInt8} (h:k.toNat%9≠0):d_ (k::a::r)=match h_ (k.toNat%9) a r with
  |none=>[]
  |some (s,r')=>s::d_ r':=by
 rw [d_.eq_def];simp only [h,if_false];split<;>rename_i he<;>simp only [he]
theorem qr_ {s:PS} (h:SOk s) (r:List UInt8):d_ (i_ s++r)=s::d_ r:=by
 have hk:=h.k;have e:(UInt8.ofNat s.k).toNat%9=s.k:=by rw [E_ (by omega)];omega
 show d_ (UInt8.ofNat s.k::s.a::(m_ s++r))=_;rw [C_ (by rw [e];omega),e,s1_ h]
theorem z_:∀(n:Nat) (l:List UInt8),l.length<=n->∀s∈d_ l,SOk s
 |_,[],_,s,hs=>by rw [d_.eq_def]at hs;cases hs
 |0,_::_,h,_,_=>by simp at h
 |n+1,k::l,h,s,hs=>by
  have h:l.length<=n:=(by simpa using h);by_cases hk:k.toNat%9=0;rw [W_ hk]at hs;exact z_ n l h s hs;cases l with
  |nil=>rw [eq_ hk]at hs;cases hs
  |cons a l=>
   rw [C_ hk]at hs;cases hd:h_ (k.toNat%9) a l with
   |none=>rw [hd]at hs;cases hs
   |some p=>obtain ⟨t,r⟩:=p;rw [hd]at hs;obtain ⟨g1,_⟩:=qZ_ (by omega) hd;have hr:=F_ hd;rcases List.mem_cons.1 hs with rfl|hs;exact g1;exact z_ n r (by simp at h;omega) s hs
def g_ (l:List PS):List UInt8:=l.flatMap i_
theorem V_:∀(l:List PS) (r:List UInt8),(∀s∈l,SOk s)->d_ (g_ l++r)=l++d_ r
 |[],r,_=>rfl
 |s::l,r,h=>by show d_ ((i_ s++g_ l)++r)=_;rw [List.append_assoc,qr_ (h s (List.mem_cons_self ..)),V_ l r λt ht=>h t (List.mem_cons_of_mem _ ht)];rfl
theorem O_:d_ []=[]:=by rw [d_.eq_def]
theorem uA_ {s:PS} (h:SOk s):d_ (i_ s)=[s]:=by
 have:=qr_ h []
 rwa [List.append_nil,O_]at this
theorem uz_ (b:List UInt8):d_ (g_ (d_ b))=d_ b:=by
 have:=V_ (d_ b) [] (z_ _ b (Nat.le_refl _))
 rwa [List.append_nil,O_,List.append_nil]at this
theorem uB_ (a b:List UInt8):d_ (g_ (d_ a)++g_ (d_ b))=d_ a++d_ b:=by rw [V_ (d_ a) _ (z_ _ a (Nat.le_refl _)),uz_]
theorem Y_ (l m:List PS):g_ (l++m)=g_ l++g_ m:=List.flatMap_append ..
theorem vF_ {s:PS} {l r:List UInt8} {k a:UInt8} (h:h_ (k.toNat%9) a l=some (s,r)) (hk:k.toNat%9≠0):(i_ s).length+r.length=l.length+2:=by obtain ⟨_,_,_,h4⟩:=qZ_ (by omega) h;have:=congrArg List.length h4;rw [List.length_append]at this;show (m_ s).length+1+1+r.length=_;omega
theorem w_:∀(n:Nat) (l:List UInt8),l.length<=n->(g_ (d_ l)).length<=l.length
 |_,[],_=>by rw [O_];exact Nat.le_refl _
 |0,_::_,h=>by simp at h
 |n+1,k::l,h=>by
  have h:l.length<=n:=(by simpa using h);by_cases hk:k.toNat%9=0;rw [W_ hk];have:=w_ n l h;simp;omega;cases l with
  |nil=>rw [eq_ hk];simp [g_]
  |cons a l=>
   rw [C_ hk];cases hd:h_ (k.toNat%9) a l with
   |none=>simp [g_]
   |some p=>obtain ⟨t,r⟩:=p;have h1:=vF_ hd hk;have hr:=F_ hd;have h2:=w_ n r (by simp at h;omega);show (i_ t++g_ (d_ r)).length<=_;rw [List.length_append];simp;omega
end Go.Proofs.YtngajicbldemgaaGreatDoor.vars
set_option maxRecDepth 100000
set_option linter.unusedVariables false
set_option linter.unusedSimpArgs false
namespace Go.Proofs.YtngajicbldemgaaGreatDoor.vars
open Go Go.Sx
theorem v1_ (a:Int):IntKind.i64.wrap (IntKind.i64.wrap a*256)=IntKind.i64.wrap (a*256):=by simp [IntKind.wrap,IntKind.bits,IntKind.signed];split<;>split<;>split<;>omega
theorem wB_ {n c:Nat} (hc:c<256):(n*256)|||c=n*256+c:=by have:=Nat.shiftLeft_add_eq_or_of_lt (b:=c) (i:=8) hc n;rw [Nat.shiftLeft_eq]at this;exact this.symm
theorem v2_ (a:Int) (c:Nat):IntKind.i64.wrap (a%18446744073709551616+c)=IntKind.i64.wrap (a+c):=by simp [IntKind.wrap,IntKind.bits,IntKind.signed]
theorem v8_ (a:Int) {c:Nat} (hc:c<256):IntKind.i64.wrap ((BitVec.ofInt 64 (IntKind.i64.wrap (a*256))|||BitVec.ofInt 64 (c:Int)).toNat:Int)=IntKind.i64.wrap (a*256+c):=by
 have h0:IntKind.i64.wrap (a*256)%18446744073709551616=(a*256)%18446744073709551616:=by simp [IntKind.wrap,IntKind.bits,IntKind.signed];split<;>omega
 have h1:(BitVec.ofInt 64 (IntKind.i64.wrap (a*256))).toNat=(a%72057594037927936).toNat*256:=by rw [BitVec.toNat_ofInt];show (IntKind.i64.wrap (a*256)%18446744073709551616).toNat=_;rw [h0];omega
 have h2:(BitVec.ofInt 64 (c:Int)).toNat=c:=by rw [BitVec.toNat_ofInt];show ((c:Int)%18446744073709551616).toNat=_;omega
 rw [BitVec.toNat_or,h1,h2,wB_ hc,←v2_]
 congr 1
 omega
theorem vW_ (P:Program) (t:TypeId) (cx cy:Bool) (x:Int):(XOp.bin .shl t cx cy).run P [.int .i64 x,.int .u64 8]=some (.int .i64 (IntKind.i64.wrap (x*256))):=by kernel_rfl
theorem wa_ (P:Program) (t:TypeId) (cx cy:Bool) (a:Int) {c:Nat} (hc:c<256):(XOp.bin .or t cx cy).run P [.int .i64 (IntKind.i64.wrap (a*256)),.int .i64 (c:Int)]=some (.int .i64 (IntKind.i64.wrap (a*256+c))):=by rw [←v8_ a hc];kernel_rfl
theorem vN_ (l:List UInt8) (c:UInt8):∀v,l_ v (l++[c])=l_ v l*256+c.toNat:=by
 induction l with
 |nil=>intro v;rfl
 |cons x l ih=>intro v;exact ih _
def n_ (l:List UInt8):Int:=IntKind.i64.wrap (l_ 0 l:Int)
theorem vP_ (P:Program) (t:TypeId) (cx cy:Bool) (l:List UInt8) (c:UInt8):(XOp.bin .or t cx cy).run P [.int .i64 (IntKind.i64.wrap (n_ l*256)),.int .i64 (c.toNat:Int)]=some (.int .i64 (n_ (l++[c]))):=by unfold n_;rw [v1_,wa_ P t cx cy _ (UInt8.toNat_lt c),vN_];rfl
theorem wc_ (P:Program) (t:TypeId) (cx cy:Bool) (v:Int) {i:Nat} (hi:i<=7):(XOp.bin .shr t cx cy).run P [.int .i64 v,.int .i64 (8*(i:Int))]=some (.int .i64 (v/((256^i:Nat):Int))):=by rcases (by omega:i=0\/i=1\/i=2\/i=3\/i=4\/i=5\/i=6\/i=7)with rfl|rfl|rfl|rfl|rfl|rfl|rfl|rfl;exact (show (XOp.bin .shr t cx cy).run P [.int .i64 v,.int .i64 0]=some (.int .i64 (v.fdiv 1)) by kernel_rfl).trans (by rw [Int.fdiv_eq_ediv_of_nonneg _ (by decide)];rfl);exact (show (XOp.bin .shr t cx cy).run P [.int .i64 v,.int .i64 8]=some (.int .i64 (v.fdiv 256)) by kernel_rfl).trans (by rw [Int.fdiv_eq_ediv_of_nonneg _ (by decide)];rfl);exact (show (XOp.bin .shr t cx cy).run P [.int .i64 v,.int .i64 16]=some (.int .i64 (v.fdiv 65536)) by kernel_rfl).trans (by rw [Int.fdiv_eq_ediv_of_nonneg _ (by decide)];rfl);exact (show (XOp.bin .shr t cx cy).run P [.int .i64 v,.int .i64 24]=some (.int .i64 (v.fdiv 16777216)) by kernel_rfl).trans (by rw [Int.fdiv_eq_ediv_of_nonneg _ (by decide)];rfl);exact (show (XOp.bin .shr t cx cy).run P [.int .i64 v,.int .i64 32]=some (.int .i64 (v.fdiv 4294967296)) by kernel_rfl).trans (by rw [Int.fdiv_eq_ediv_of_nonneg _ (by decide)];rfl);exact (show (XOp.bin .shr t cx cy).run P [.int .i64 v,.int .i64 40]=some (.int .i64 (v.fdiv 1099511627776)) by kernel_rfl).trans (by rw [Int.fdiv_eq_ediv_of_nonneg _ (by decide)];rfl);exact (show (XOp.bin .shr t cx cy).run P [.int .i64 v,.int .i64 48]=some (.int .i64 (v.fdiv 281474976710656)) by kernel_rfl).trans (by rw [Int.fdiv_eq_ediv_of_nonneg _ (by decide)];rfl);exact (show (XOp.bin .shr t cx cy).run P [.int .i64 v,.int .i64 56]=some (.int .i64 (v.fdiv 72057594037927936)) by kernel_rfl).trans (by rw [Int.fdiv_eq_ediv_of_nonneg _ (by decide)];rfl)
instance gI:Gl:=eI_ 1 []
theorem mox:Tryz.prog.follows .mixedOrders=true:=by kernel_rfl
theorem ov:kI_ Tryz.prog:=vt_ 1 _
def a_ (c:UInt8):List AV:=[.int .u8 (c.toNat:Int)]
theorem lenB (c:UInt8):(a_ c).length=1:=rfl
theorem b_ (c:UInt8):okL (a_ c)=true:=rfl
abbrev By (l:List UInt8) (x:AV):Prop:=SlV a_ 1 l x
section
variable {l:List UInt8} {x:AV}
theorem k_ (h:By l x):(XOp.len 23).run Tryz.prog [x]=some (.int .i64 (l.length:Int)):=h.len Tryz.underlying23
theorem wu_ (h:By l x) {i:Nat} (hi:i<l.length):(XOp.iaddr 23).run Tryz.prog [x,.int .i64 (i:Int)]=some (.vptr (bR_ a_ (l.drop i))):=h.ia (e:=5) Tryz.underlying23 (ti:=(Tryz.prog.info? 5).get!) (by kernel_rfl) (by kernel_rfl) lenB hi .i64
theorem ld5 {i:Nat} (hi:i<l.length):(XOp.load 5).run Tryz.prog [.vptr (bR_ a_ (l.drop i))]=some (.int .u8 (l[i].toNat:Int)):=by rw [List.drop_eq_getElem_cons hi];exact s3_ Tryz.underlying5 rfl _ _
theorem okT (i:Nat):okC (.vptr (bR_ a_ (l.drop i)))=true:=kU_ b_ _
theorem w3_ (h:By l x) {n:Nat} (hn:n<=l.length):∃r,(XOp.slc 23 false true).run Tryz.prog [x,.int .i64 (n:Int)]=some r/\By (l.take n) r:=by obtain ⟨r,h1,h2⟩:=vx_ (e:=5) Tryz.underlying23 (ti:=(Tryz.prog.info? 5).get!) (by kernel_rfl) (by kernel_rfl) lenB h (lo:=none) (hi':=some (.int .i64 (n:Int))) (i:=0) (j:=n) rfl rfl (Nat.zero_le _) hn;exact ⟨r,h1,h2⟩
theorem w5_ (h:By l x) {n:Nat} (hn:n<=l.length):∃r,(XOp.slc 23 true false).run Tryz.prog [x,.int .i64 (n:Int)]=some r/\By (l.drop n) r:=by obtain ⟨r,h1,h2⟩:=vx_ (e:=5) Tryz.underlying23 (ti:=(Tryz.prog.info? 5).get!) (by kernel_rfl) (by kernel_rfl) lenB h (lo:=some (.int .i64 (n:Int))) (hi':=none) (i:=n) (j:=l.length) rfl rfl hn (Nat.le_refl _);rw [List.take_length]at h2;exact ⟨r,h1,h2⟩
end
theorem vY_ (l:List UInt8) (lo hi:Option AV) (e:dw_ (nh_ a_ 1 l) (aN_ Tryz.prog h0 23 (nh_ a_ 1 l) lo hi)=some .nsl):False:=by
 obtain ⟨_,e⟩:=bB_ e;unfold aN_ nh_ at e;simp only [Tryz.underlying23]at e;repeat' split at e
 all_goals first|cases e|(injection e with e;cases e)
theorem w4_ (l:List UInt8) {n:Nat} (hn:n<=l.length):(XOp.slc 23 false true).run Tryz.prog [nh_ a_ 1 l,.int .i64 (n:Int)]=some (nh_ a_ 1 (l.take n)):=by obtain ⟨r,e,h⟩:=w3_ (SlV.v (enc:=a_) (w:=1) l) hn;rcases h with rfl|⟨_,rfl⟩;exact e;exact (vY_ l none (some (.int .i64 (n:Int))) e).elim
theorem w6_ (l:List UInt8) {n:Nat} (hn:n<=l.length):(XOp.slc 23 true false).run Tryz.prog [nh_ a_ 1 l,.int .i64 (n:Int)]=some (nh_ a_ 1 (l.drop n)):=by obtain ⟨r,e,h⟩:=w5_ (SlV.v (enc:=a_) (w:=1) l) hn;rcases h with rfl|⟨_,rfl⟩;exact e;exact (vY_ l (some (.int .i64 (n:Int))) none e).elim
theorem wQ_ (c:UInt8):(XOp.conv 5 2).run Tryz.prog [.int .u8 (c.toNat:Int)]=some (.int .i64 (c.toNat:Int)):=by have:=UInt8.toNat_lt c;rw [tK_ Tryz.underlying5 Tryz.underlying2,vT_ (by omega) (by omega)]
theorem es_ {n:Nat} (h:n<9223372036854775807):IntKind.i64.wrap ((n:Int)+1)=((n+1:Nat):Int):=by rw [vT_ (by omega) (by omega)];rfl
end Go.Proofs.YtngajicbldemgaaGreatDoor.vars
set_option maxRecDepth 100000
set_option linter.unusedVariables false
set_option linter.unusedSimpArgs false
namespace Go.Proofs.YtngajicbldemgaaGreatDoor.vars
open Go Go.Sx
def c30:VC:=⟨⟨[],[]⟩,[],[],1,true,[]⟩
def t30:VT:=.ite 65 (Li Z0 [66] 67<|Dn [67,.nsl,.bool true])<|Li Q1 [64] 67<|It (.bin .gtr 3 false false) [66,67] 68 (Li Z0 [66] 69<|Dn [69,.nsl,.bool true])<|Li Qe [64,66] 69<|Li Z1 [64,66] 70<|Dn [69,70,65]
def c28:VC:=⟨⟨[],[]⟩,[],[(0,[⟨[(11,.slx 0 0 0),(4,.slx 1 0 0),(10,.slx 2 0 0),(9,.slx 3 0 0)],[(0,[.slx 4 0 0,.slx 5 0 0])],1,6,[],[],[]⟩])],1,true,[(30,ft30)]⟩
def t28:VT:=Cf 30 ft30 [64,65,66] 67 3<|Li Q1 [70] 73<|.loop 74 0 [J 0,J 0,73,70,71,72] (.cons 6 (It Qd [74,76] 80 (Li Qm [77,74] 81<|Li (.load 5) [81] 82<|Li (.bin .shl 2 false true) [75,.int .u64 8] 83<|Li (.conv 5 2) [82] 84<|Li (.bin .or 2 false false) [83,84] 85<|Li Q7 [74,J 1] 86<|.again 0 0 [86,85,76,77,78,79])<|Dn [75,78,79]) .nil)
theorem s9_ (n:Nat):ax_ [AV.int .u8 0] n=bR_ a_ (List.replicate n 0):=by
 induction n with
 |zero=>rfl
 |succ n ih=>rw [List.replicate_succ];show _++ax_ _ n=_;rw [ih];rfl
theorem qt_ {n:Nat} (h:n<=70000):(XOp.mkx 1 1 [.int .u8 0]).run Tryz.prog [.int .i64 (n:Int)]=some (nh_ a_ 1 (List.replicate n 0)):=by
 show (match Nat.ble (Nat.mul 1 n) 16777216&&Nat.ble n 16777216 with
  |true=>some (AV.vsl n 1 (ax_ [.int .u8 0] n))
  |false=>none)=_
 rw [show Nat.mul 1 n=n from Nat.one_mul n,Nat.ble_eq_true_of_le (by omega:n<=16777216)];show some (AV.vsl n 1 _)=_;rw [s9_];unfold nh_;rw [List.length_replicate]
theorem ok3 {z y:AV} (b:Bool) (h:okC z=true) (h1:okC y=true):okL [z,y,.bool b]=true:=by simp only [okL,h,h1,okC]
def R30 (l:List UInt8) (bad:Bool) (n:Nat):Nat->List AV->Prop:=λ_ ws=>∃z y b,ws=[z,y,.bool b]/\(if bad=true\/l.length<n then b=true/\y=.nsl/\z=nh_ a_ 1 (List.replicate n 0)else b=false/\z=nh_ a_ 1 (l.take n)/\y=nh_ a_ 1 (l.drop n))
theorem p30 {l:List UInt8} {x:AV} (h:By l x) (bad:Bool) (hx:bad=false->x=nh_ a_ 1 l) {n:Nat} (hn:n<=70000):CF Tryz.prog 30 ft30 [x,.bool bad,.int .i64 (n:Int)] (R30 l bad n):=by refine vn_ (c:=c30) (n:=300) (t:=t30) mox ov rfl (λY _=>vK_ _) (by kernel_rfl) λY hf hg=>?_;unfold t30;refine vl_ (t:=bad) rfl (λhb=>?_) (λhb=>?_);refine vC_ (qt_ hn) (si_ b_ _) (vk_ (ok3 _ (si_ b_ _) rfl) ⟨_,_,_,rfl,?_⟩);rw [if_pos (.inl hb)];exact ⟨rfl,rfl,rfl⟩;subst hb;refine vC_ (k_ h) rfl (vC_ (run_gtr ..) rfl (vl_ rfl (λh1=>?_) (λh1=>?_)));have h1:(l.length:Int)<(n:Int):=of_decide_eq_true h1;refine vC_ (qt_ hn) (si_ b_ _) (vk_ (ok3 _ (si_ b_ _) rfl) ⟨_,_,_,rfl,?_⟩);rw [if_pos (.inr (by omega))];exact ⟨rfl,rfl,rfl⟩;have h1:¬(l.length:Int)<(n:Int):=of_decide_eq_false h1;obtain rfl:=hx rfl;refine vC_ (w4_ l (n:=n) (by omega)) (si_ b_ _) (vC_ (w6_ l (n:=n) (by omega)) (si_ b_ _) (vk_ (ok3 _ (si_ b_ _) (si_ b_ _)) ⟨_,_,_,rfl,?_⟩));rw [if_neg (λh=>h.elim (λh=>by cases h) (λh=>by omega))];exact ⟨rfl,rfl,rfl⟩
theorem vO_ (n:Nat):l_ 0 (List.replicate n 0)=0:=by
 induction n with
 |zero=>rfl
 |succ n ih=>rw [List.replicate_succ];exact ih
theorem uX_ (n:Nat):n_ (List.replicate n 0)=0:=by unfold n_;rw [vO_];decide
def R28 (l:List UInt8) (bad:Bool) (n:Nat):Nat->List AV->Prop:=λ_ ws=>∃v y b,ws=[.int .i64 v,y,.bool b]/\(if bad=true\/l.length<n then b=true/\y=.nsl/\v=0 else b=false/\v=n_ (l.take n)/\y=nh_ a_ 1 (l.drop n))
theorem p28 {l:List UInt8} {x:AV} (h:By l x) (bad:Bool) (hx:bad=false->x=nh_ a_ 1 l) {n:Nat} (hn:n<=70000):CF Tryz.prog 28 ft28 [x,.bool bad,.int .i64 (n:Int)] (R28 l bad n):=by
 refine vn_ (c:=c28) (n:=300) (t:=t28) mox ov rfl (λY _=>vK_ _) (by kernel_rfl) λY hf hg=>?_;unfold t28;refine ux_ (p30 h bad hx hn) (by show okL [x,.bool bad,.int .i64 (n:Int)]=true;simp only [okL,h.ok b_,okC]) ⟨?_,trivial⟩;rintro ws ⟨z,y,b,rfl,hR⟩;have key:∃m:List UInt8,By m z/\okC y=true/\m.length=n/\(R28 l bad n 0 [.int .i64 (n_ m),y,.bool b]):=by
  split at hR;rename_i hc;obtain ⟨rfl,rfl,rfl⟩:=hR;exact ⟨_,SlV.v _,rfl,List.length_replicate,_,_,_,rfl,by rw [if_pos hc];exact ⟨rfl,rfl,uX_ n⟩⟩
  .rename_i hc;obtain ⟨rfl,rfl,rfl⟩:=hR;have hle:n<=l.length:=by have:=λe=>hc (.inr e);omega
   exact ⟨_,SlV.v _,si_ b_ _,by rw [List.length_take];omega,_,_,_,rfl,by rw [if_neg hc];exact ⟨rfl,rfl,rfl⟩⟩
 obtain ⟨m,hm,hy,hlen,hfin⟩:=key;refine vC_ (k_ hm) rfl ?_;refine uI_ (ι:=Nat) (λi=>[.int .i64 (i:Int),.int .i64 (n_ (m.take i)),.int .i64 (m.length:Int),z,y,.bool b]) (λi=>i<=m.length) (λi=>m.length-i) 0 (Nat.zero_le _) ?_ (λ_ _=>by simp only [okL,okC,hm.ok b_,hy]) (λi j _ _ h=>?_) (λi hi=>?_);rfl
 .have h:=(List.cons.inj h).1;injection h with _ h
  omega
 refine vC_ (run_lss ..) rfl (vl_ rfl (λhlt=>?_) (λhlt=>?_));have hlt:(i:Int)<(m.length:Int):=of_decide_eq_true hlt;have hlt:i<m.length:=(by omega);refine vC_ (wu_ hm hlt) (okT _) (vC_ (ld5 hlt) rfl (vC_ (vW_ ..) rfl (vC_ (wQ_ _) rfl (vC_ (vP_ ..) rfl (vC_ (run_add ..) rfl (uw_ rfl ⟨i+1,hlt,?_,?_⟩))))));show [AV.int .i64 (IntKind.i64.wrap ((i:Int)+1)),AV.int .i64 (n_ (m.take i++[m[i]])),AV.int .i64 (m.length:Int),z,y,AV.bool b]=[AV.int .i64 ((i+1:Nat):Int),AV.int .i64 (n_ (m.take (i+1))),AV.int .i64 (m.length:Int),z,y,AV.bool b];rw [es_ (by omega),List.take_append_getElem hlt];omega;have hlt:¬(i:Int)<(m.length:Int):=of_decide_eq_false hlt;have e:m.take i=m:=List.take_of_length_le (by omega);refine vk_ (by show okL [.int .i64 _,y,.bool b]=true;simp only [okL,okC,hy]) ?_;show R28 l bad n 0 [.int .i64 (n_ (m.take i)),y,.bool b];rw [e];exact hfin
end Go.Proofs.YtngajicbldemgaaGreatDoor.vars
set_option maxRecDepth 100000
set_option linter.unusedVariables false
set_option linter.unusedSimpArgs false
namespace Go.Proofs.YtngajicbldemgaaGreatDoor.vars
open Go Go.Sx
def c26:VC:=⟨⟨[],[]⟩,[],[(0,[⟨[(13,.slx 0 0 0),(1,65),(0,64),(12,69)],[],0,1,[],[],[]⟩])],0,true,[]⟩
def t26:VT:=Li Q1 [64] 66<|Li Q1 [65] 67<|It Qz [66,67] 68 (.done (.bool false))<|Li Q1 [64] 69<|.loop 70 0 [J 0] (.cons 1 (It Qd [70,69] 71 (Li Qm [64,70] 72<|Li (.load 5) [72] 73<|Li Qm [65,70] 74<|Li (.load 5) [74] 75<|It (.bin .neq 5 false false) [73,75] 76 (.done (.bool false))<|Li Q7 [70,J 1] 77<|.again 0 0 [77])<|.done (.bool true)) .nil)
def c29:VC:=⟨⟨[],[]⟩,[],[],0,true,[]⟩
def t29:VT:=It (.bin .eql 23 false true) [64,.nsl] 65 (.done (.nsl))<|Li Q6 [.vsl 0 1 [],64] 66<|.done (66)
def c17:VC:=⟨⟨[],[]⟩,[],[(0,[⟨[(5,.slx 0 0 0),(0,64),(4,.slx 0 1 1)],[],1,2,[⟨0,1,1,4,none⟩],[],[]⟩])],0,true,[]⟩
def t17:VT:=Li Qi [65,J 1] 66<|.loop 67 0 [66,.nsl] (.cons 2 (It Z2 [67,J 0] 69 (Li Z3 [J 8,67] 70<|Li (.bin .shr 2 false false) [64,70] 71<|Li (.conv 2 5) [71] 72<|Li Q6 [68,.agg [72]] 73<|Li Qi [67,J 1] 74<|.again 0 0 [74,73])<|.done (68)) .nil)
def c16:VC:=⟨⟨[],[]⟩,[],[(0,[⟨[(11,.slx 0 0 0),(3,.slx 1 0 0),(9,64),(0,64),(10,65)],[],0,2,[],[],[]⟩]),(2,[⟨[(27,.slx 0 0 0),(6,.slx 0 1 1),(25,64),(26,.slx 2 0 0)],[],1,3,[⟨0,1,1,6,none⟩],[],[]⟩])],0,true,[]⟩
def t16:VT:=Li (.len 77) [64] 65<|.loop 66 0 [J 0,J 0] (.cons 2 (It Qd [66,65] 68 (Li Qp [64,66] 69<|Li (.load 23) [69] 70<|Li Q1 [70] 71<|Li (.bin .add 3 false false) [67,71] 72<|It Qj [72,J 0] 73 .bad<|Li Q7 [66,J 1] 74<|.again 0 0 [74,72])<|It Qj [67,J 0] 69 .bad<|Li Qf [67,J 0] 70<|It Qg [70,J 0] 71 (Li (.mkz 1 1 [.int .u8 0]) [70] 72<|Li .tkx [72,72,J 0] 73<|Li (.len 77) [64] 74<|.loop 75 0 [J 0,73,74] (.cons 3 (It Qd [75,77] 78 (Li Qp [64,75] 79<|Li (.load 23) [79] 80<|Li Q6 [76,80] 81<|Li Q7 [75,J 1] 82<|.again 1 0 [82,81,77])<|.done (76)) .nil))<|Li (.len 77) [64] 72<|.loop 73 0 [J 0,.nsl,72] (.cons 3 (It Qd [73,75] 76 (Li Qp [64,73] 77<|Li (.load 23) [77] 78<|Li Q6 [74,78] 79<|Li Q7 [73,J 1] 80<|.again 1 0 [80,79,75])<|.done (74)) .nil)) .nil)
theorem v9_ (t:TypeId) (cx cy:Bool) (a b:UInt8):(XOp.bin .neq t cx cy).run Tryz.prog [.int .u8 (a.toNat:Int),.int .u8 (b.toNat:Int)]=some (.bool (!decide (a=b))):=by
 rw [run_neq]
 congr 3
 have:((a.toNat:Int)=(b.toNat:Int))=(a=b):=propext ⟨λh=>UInt8.toNat_inj.1 (by omega),λh=>by rw [h]⟩;simp only [this]
theorem p26 {l m:List UInt8} {x y:AV} (hx:By l x) (hy:By m y) (hl:l.length<=1000000):ic_ Tryz.prog 26 [x,y] (.bool (decide (l=m))):=by
 refine ua_ (sh:=[none,none]) (ls:=[x,y]) (c:=c26) (n:=300) (t:=t26) mox ov rfl (by simp only [okL,hx.ok b_,hy.ok b_]) rfl (λY _=>vK_ _) rfl (by kernel_rfl) λY hf hg=>?_;unfold t26;refine vC_ (k_ hx) rfl (vC_ (k_ hy) rfl (vC_ (run_neq ..) rfl (vl_ rfl (λh=>uH_ ?_) (λh=>?_))));have h:(!decide ((l.length:Int)=(m.length:Int)))=true:=h;show AV.bool false=AV.bool (decide (l=m));rw [decide_eq_false λe=>by rw [e]at h;simp at h];have h:(!decide ((l.length:Int)=(m.length:Int)))=false:=h;have hlen:l.length=m.length:=by have:(l.length:Int)=(m.length:Int):=(by simpa using h);omega
 refine vC_ (k_ hx) rfl ?_;refine uI_ (ι:=Nat) (λi=>[.int .i64 (i:Int)]) (λi=>i<=l.length/\l.take i=m.take i) (λi=>l.length-i) 0 ⟨Nat.zero_le _,rfl⟩ rfl (λ_ _=>rfl) (λi j _ _ h=>?_) (λi hi=>?_)
 .have h:=(List.cons.inj h).1;injection h with _ h
  omega
 obtain ⟨hi,he⟩:=hi;refine vC_ (run_lss ..) rfl (vl_ rfl (λhlt=>?_) (λhlt=>uH_ ?_));have hlt:(i:Int)<(l.length:Int):=of_decide_eq_true hlt;have hlt:i<l.length:=(by omega);have hlt2:i<m.length:=(by omega);refine vC_ (wu_ hx hlt) (okT _) (vC_ (ld5 hlt) rfl (vC_ (wu_ hy hlt2) (okT _) (vC_ (ld5 hlt2) rfl (vC_ (v9_ ..) rfl (vl_ rfl (λhne=>uH_ ?_) (λhne=>vC_ (run_add ..) rfl (uw_ rfl ⟨i+1,⟨hlt,?_⟩,?_,?_⟩)))))));have hne:(!decide (l[i]=m[i]))=true:=hne;show AV.bool false=AV.bool (decide (l=m));rw [decide_eq_false λe=>by subst e;simp at hne];have hne:(!decide (l[i]=m[i]))=false:=hne;have hne:l[i]=m[i]:=(by simpa using hne);rw [←List.take_append_getElem hlt,←List.take_append_getElem hlt2,he,hne];show [AV.int .i64 (IntKind.i64.wrap ((i:Int)+1))]=[AV.int .i64 ((i+1:Nat):Int)];rw [es_ (by omega)];omega;have hlt:¬(i:Int)<(l.length:Int):=of_decide_eq_false hlt;have e:l=m:=(by rw [List.take_of_length_le (by omega:l.length<=i),List.take_of_length_le (by omega:m.length<=i)]at he;exact he);show AV.bool true=AV.bool (decide (l=m));rw [decide_eq_true e]
theorem wg_ {l:List UInt8} {x:AV} (h:By l x):bM_ 1 x=some (l.length,bR_ a_ l):=by rcases h with rfl|⟨rfl,rfl⟩;have hl:(bR_ a_ l).length=l.length*1:=eB_ lenB l;show (match am_ ⟨hnil,0,0⟩ (.vsl l.length 1 (bR_ a_ l)) l.length 1 with|some c=>some (l.length,c)|none=>none)=_;have:am_ ⟨hnil,0,0⟩ (.vsl l.length 1 (bR_ a_ l)) l.length 1=some (bR_ a_ l):=(by show a1_ (Nat.mul l.length 1) _=_;have h:=eX_ (bR_ a_ l) [];rw [List.append_nil,hl]at h;exact h);rw [this];rfl
theorem A_ {l:List UInt8} {x:AV} (h:By l x) (a:List UInt8) (hl:a.length+l.length<=1000000):(XOp.app 1 1).run Tryz.prog [nh_ a_ 1 a,x]=some (nh_ a_ 1 (a++l)):=by
 show (match bM_ 1 x with|some (n,l')=>kK_ 1 1 (nh_ a_ 1 a) n l'|none=>none)=_;rw [wg_ h];show kK_ 1 1 (nh_ a_ 1 a) l.length (bR_ a_ l)=_;have h1:(bR_ a_ l).length=l.length*1:=eB_ lenB l;have h2:(bR_ a_ a).length=a.length*1:=eB_ lenB a;unfold kK_ nh_;simp only [h1,h2,decide_true,and_self];cases l with
 |nil=>simp [bR_]
 |cons c r=>have c1:(Nat.ble (Nat.mul (Nat.add a.length (r.length+1)) 1) 1073741824&&Nat.ble (Nat.add a.length (r.length+1)) 1073741824&&Nat.blt 0 1)=true:=(by have e:Nat.mul (Nat.add a.length (r.length+1)) 1=a.length+(r.length+1):=Nat.mul_one _;have e2:Nat.add a.length (r.length+1)=a.length+(r.length+1):=rfl;simp at hl;rw [e,e2,Nat.ble_eq_true_of_le (by omega)];rfl);simp only [List.length_cons,c1,List.length_append,eA_];rfl
theorem wd_ {a:List UInt8} (h:a≠[]):cS_ a_ 1 a=nh_ a_ 1 a:=by
 cases a with
 |nil=>exact absurd rfl h
 |cons c r=>rfl
theorem qq_ {l:List UInt8} {x:AV} (h:By l x) (a:List UInt8) (hl:a.length+l.length<=1000000):(XOp.app 1 1).run Tryz.prog [cS_ a_ 1 a,x]=some (cS_ a_ 1 (a++l)):=by
 by_cases ha:a=[]
 .subst ha;show (match bM_ 1 x with|some (n,l')=>kK_ 1 1 .nsl n l'|none=>none)=_;rw [wg_ h];show kK_ 1 1 .nsl l.length (bR_ a_ l)=_;have h1:(bR_ a_ l).length=l.length*1:=eB_ lenB l;unfold kK_;simp only [h1,decide_true];cases l with
  |nil=>rfl
  |cons c r=>have c1:(Nat.ble (Nat.mul (r.length+1) 1) 1073741824&&Nat.ble (r.length+1) 1073741824&&Nat.blt 0 1)=true:=(by have e:Nat.mul (r.length+1) 1=r.length+1:=Nat.mul_one _;simp at hl;rw [e,Nat.ble_eq_true_of_le (by omega)];rfl);simp only [List.length_cons,c1];rfl
 rw [wd_ ha,A_ h a hl,wd_ (by simp [ha])]
theorem p29 {l:List UInt8} {x:AV} (h:By l x) (hl:l.length<=1000000):ic_ Tryz.prog 29 [x] x:=by have hx:=h.ok b_;refine ua_ (sh:=[none]) (ls:=[x]) (c:=c29) (n:=300) (t:=t29) mox ov (by rcases h with rfl|⟨_,rfl⟩<;>rfl) (by simp only [okL,hx]) (qa_ hx) (λY _=>vK_ _) rfl (by kernel_rfl) λY hf hg=>?_;unfold t29;rcases h with rfl|⟨_,rfl⟩;refine vC_ (r:=.bool false) (by kernel_rfl) rfl (vl_ (t:=false) rfl (λh=>by cases h) (λ_=>?_));have:=A_ (SlV.v (enc:=a_) (w:=1) l) [] (by simpa using hl);exact vC_ this (si_ b_ _) (uH_ rfl);exact vC_ (r:=.bool true) (by kernel_rfl) rfl (vl_ (t:=true) rfl (λ_=>uH_ rfl) (λh=>by cases h))
theorem p17 (v:Int) {n:Nat} (hn:n<=8):ic_ Tryz.prog 17 [.int .i64 v,.int .i64 (n:Int)] (cS_ a_ 1 (j_ v n)):=by
 refine ua_ (sh:=[none,none]) (ls:=[.int .i64 v,.int .i64 (n:Int)]) (c:=c17) (n:=300) (t:=t17) mox ov rfl rfl (qa_ (uh_ b_ _)) (λY _=>vK_ _) rfl (by kernel_rfl) λY hf hg=>?_;unfold t17;refine vC_ (r:=.int .i64 ((n:Int)-1)) ((run_sub ..).trans (by rw [vT_ (by omega) (by omega)])) rfl ?_;refine uI_ (ι:=Nat×List UInt8) (λq=>[.int .i64 ((q.1:Int)-1),cS_ a_ 1 q.2]) (λq=>q.1<=n/\q.2++j_ v q.1=j_ v n) (λq=>q.1) (n,[]) ⟨Nat.le_refl _,rfl⟩ rfl (λq _=>by simp only [okL,okC,uh_ b_]) (λq q' _ _ h=>?_) (λq hq=>?_)
 .have h:=(List.cons.inj h).1;injection h with _ h
  omega
 obtain ⟨r,o⟩:=q;obtain ⟨hr,he⟩:=hq;have hr:r<=n:=hr;have he:o++j_ v r=j_ v n:=he;refine vC_ (run_geq ..) rfl (vl_ rfl (λh=>?_) (λh=>uH_ ?_));have h:(0:Int)<=(r:Int)-1:=of_decide_eq_true h;obtain ⟨r,rfl⟩:∃r',r=r'+1:=⟨r-1,by omega⟩;have hl:=congrArg List.length he;rw [List.length_append,c_,c_]at hl;have h0:0<=(v/((256^r:Nat):Int))%256:=Int.emod_nonneg _ (by decide);have h1:(v/((256^r:Nat):Int))%256<256:=Int.emod_lt_of_pos _ (by decide);have e1:(((r+1:Nat):Int)-1)=(r:Int):=(by omega);refine vC_ (r:=.int .i64 (8*(r:Int))) ?_ rfl (vC_ (wc_ _ _ _ _ v (i:=r) (by omega)) rfl (vC_ (r:=.int .u8 ((UInt8.ofNat ((v/((256^r:Nat):Int))%256).toNat).toNat:Int)) ?_ rfl (vC_ (ud_ lenB (by decide) (by decide) o (UInt8.ofNat ((v/((256^r:Nat):Int))%256).toNat) (by omega)) (uh_ b_ _) (vC_ (run_sub ..) rfl (uw_ rfl ⟨(r,o++[UInt8.ofNat ((v/((256^r:Nat):Int))%256).toNat]),⟨?_,?_⟩,?_,?_⟩)))));show (XOp.bin .mul 3 true false).run Tryz.prog [.int .i64 8,.int .i64 (((r+1:Nat):Int)-1)]=_;rw [run_mul,e1,vT_ (by omega) (by omega)];rw [b1_ h0 h1];exact tK_ Tryz.underlying2 Tryz.underlying5 _;show r<=n;omega;show (o++[_])++j_ v r=j_ v n;rw [←he,List.append_assoc];rfl;show [AV.int .i64 (IntKind.i64.wrap ((((r+1:Nat):Int)-1)-1)),cS_ a_ 1 _]=[AV.int .i64 ((r:Int)-1),cS_ a_ 1 _];rw [vT_ (by omega) (by omega),e1];show r<r+1;omega;have h:¬(0:Int)<=(r:Int)-1:=of_decide_eq_false h;have:r=0:=(by omega);subst this;have:o=j_ v n:=(by rw [←he];simp [j_]);subst this;rfl
structure SB where
 l:List UInt8
 x:AV
def Z_ (s:SB):List AV:=[s.x]
theorem xq_ (s:SB):(Z_ s).length=1:=rfl
def K_ (ss:List SB):List UInt8:=ss.flatMap SB.l
theorem N_ (ss:List SB) {i:Nat} (h:i<ss.length):K_ (ss.take (i+1))=K_ (ss.take i)++ss[i].l:=by show (ss.take (i+1)).flatMap SB.l=(ss.take i).flatMap SB.l++ss[i].l;rw [←List.take_append_getElem h,List.flatMap_append];show _++(ss[i].l++[])=_;rw [List.append_nil]
theorem oR_ (ss:List SB) (i:Nat):(K_ (ss.take i)).length<=(K_ ss).length:=by
 have:K_ ss=K_ (ss.take i)++K_ (ss.drop i):=by unfold K_;rw [←List.flatMap_append,List.take_append_drop]
 rw [this,List.length_append];omega
theorem w1_ {ss:List SB} (h:∀s∈ss,By s.l s.x):okL (bR_ Z_ ss)=true:=by
 induction ss with
 |nil=>rfl
 |cons s r ih=>exact kU_.okL_join (by show okL [s.x]=true;simp only [okL,(h s (List.mem_cons_self ..)).ok b_]) (ih λt ht=>h t (List.mem_cons_of_mem _ ht))
theorem wA_ {ss:List SB} (h:∀s∈ss,By s.l s.x) (i:Nat):okC (.vptr (bR_ Z_ (ss.drop i)))=true:=w1_ λs hs=>h s (List.mem_of_mem_drop hs)
theorem vM_ (ss:List SB):(XOp.len 77).run Tryz.prog [nh_ Z_ 1 ss]=some (.int .i64 (ss.length:Int)):=(SlV.v (enc:=Z_) (w:=1) ss).len Tryz.underlying77
theorem wv_ {ss:List SB} {i:Nat} (hi:i<ss.length):(XOp.iaddr 77).run Tryz.prog [nh_ Z_ 1 ss,.int .i64 (i:Int)]=some (.vptr (bR_ Z_ (ss.drop i))):=(SlV.v (enc:=Z_) (w:=1) ss).ia (e:=23) Tryz.underlying77 (ti:=(Tryz.prog.info? 23).get!) (by kernel_rfl) (by kernel_rfl) xq_ hi .i64
theorem ww_ {ss:List SB} {i:Nat} (hi:i<ss.length):(XOp.load 23).run Tryz.prog [.vptr (bR_ Z_ (ss.drop i))]=some ss[i].x:=by rw [List.drop_eq_getElem_cons hi];exact s3_ Tryz.underlying23 rfl _ _
theorem vV_ {n:Nat} (h0:0<n) (h:n<=1000000):(XOp.mkz 1 1 [.int .u8 0]).run Tryz.prog [.int .i64 (n:Int)]=some (nh_ a_ 1 (List.replicate n 0)):=by
 show (match Nat.blt 0 1&&(Nat.blt 0 1&&(Nat.blt 0 n&&(Nat.ble (Nat.mul n 1) 1073741824&&Nat.ble n 1073741824)))with
  |true=>some (AV.vsl n 1 (ax_ [.int .u8 0] n))
  |false=>none)=_
 have e:(Nat.blt 0 1&&(Nat.blt 0 1&&(Nat.blt 0 n&&(Nat.ble (Nat.mul n 1) 1073741824&&Nat.ble n 1073741824))))=true:=by rw [show Nat.mul n 1=n from Nat.mul_one n,Nat.ble_eq_true_of_le (by omega:n<=1073741824),show Nat.blt 0 n=true from Nat.ble_eq_true_of_le h0];rfl
 rw [e];show some (AV.vsl n 1 _)=_;rw [s9_];unfold nh_;rw [List.length_replicate]
theorem wb_ (m:List UInt8):XOp.tkx.run Tryz.prog [nh_ a_ 1 m,nh_ a_ 1 m,.int .i64 0]=some (nh_ a_ 1 []):=by
 show (match Nat.beq 1 1&&(Nat.ble 0 m.length&&Nat.ble 0 m.length)with
  |true=>match a1_ (Nat.mul 0 1) (bR_ a_ m)with
   |some cs'=>some (AV.vsl 0 1 cs')
   |none=>none
  |false=>none)=_
 rw [Nat.ble_eq_true_of_le (Nat.zero_le _)];rfl
theorem p16 (ss:List SB) (h:∀s∈ss,By s.l s.x) (hn:ss.length<=1000) (hl:(K_ ss).length<=1000000):ic_ Tryz.prog 16 [nh_ Z_ 1 ss] (cS_ a_ 1 (K_ ss)):=by
 have hx:okC (nh_ Z_ 1 ss)=true:=w1_ h;refine ua_ (sh:=[none]) (ls:=[nh_ Z_ 1 ss]) (c:=c16) (n:=300) (t:=t16) mox ov rfl (by simp only [okL,hx]) (qa_ (uh_ b_ _)) (λY _=>vK_ _) rfl (by kernel_rfl) λY hf hg=>?_;unfold t16;refine vC_ (vM_ ss) rfl ?_;refine uI_ (ι:=Nat) (λi=>[.int .i64 (i:Int),.int .i64 ((K_ (ss.take i)).length:Int)]) (λi=>i<=ss.length) (λi=>ss.length-i) 0 (Nat.zero_le _) rfl (λ_ _=>rfl) (λi j _ _ h=>?_) (λi hi=>?_)
 .have h:=(List.cons.inj h).1;injection h with _ h
  omega
 have hci:=oR_ ss i;refine vC_ (run_lss ..) rfl (vl_ rfl (λhlt=>?_) (λhlt=>?_));have hlt:(i:Int)<(ss.length:Int):=of_decide_eq_true hlt;have hlt:i<ss.length:=(by omega);have hb:=h ss[i] (List.getElem_mem hlt);have hc:=oR_ ss (i+1);have e:(K_ (ss.take (i+1))).length=(K_ (ss.take i)).length+ss[i].l.length:=(by rw [N_ ss hlt,List.length_append]);refine vC_ (wv_ hlt) (wA_ h i) (vC_ (ww_ hlt) (hb.ok b_) (vC_ (k_ hb) rfl (vC_ (r:=.int .i64 ((K_ (ss.take (i+1))).length:Int)) ?_ rfl (vC_ (run_lss ..) rfl (vl_ rfl (λhc=>?_) (λ_=>vC_ (run_add ..) rfl (uw_ rfl ⟨i+1,hlt,?_,?_⟩)))))));refine (run_add ..).trans ?_;rw [vT_ (by omega) (by omega),e];rfl;have hc:((K_ (ss.take (i+1))).length:Int)<0:=of_decide_eq_true hc;omega;show [AV.int .i64 (IntKind.i64.wrap ((i:Int)+1)),AV.int .i64 _]=[AV.int .i64 ((i+1:Nat):Int),AV.int .i64 _];rw [es_ (by omega)];omega;have hlt:¬(i:Int)<(ss.length:Int):=of_decide_eq_false hlt;have ei:ss.take i=ss:=List.take_of_length_le (by omega);rw [ei];refine vC_ (run_lss ..) rfl (vl_ rfl (λhc=>?_) (λ_=>?_));have hc:((K_ ss).length:Int)<0:=of_decide_eq_true hc;omega;refine vC_ (r:=.int .i64 ((K_ ss).length:Int)) ((run_sub ..).trans (by rw [vT_ (by omega) (by omega),Int.sub_zero])) rfl (vC_ (run_gtr ..) rfl (vl_ rfl (λhc=>?_) (λhc=>?_)))
 .have hc:(0:Int)<((K_ ss).length:Int):=of_decide_eq_true hc;have hne:K_ ss≠[]:=λe=>(by rw [e]at hc;simp at hc);refine vC_ (vV_ (n:=(K_ ss).length) (by omega) hl) (si_ b_ _) (vC_ (wb_ _) rfl (vC_ (vM_ ss) rfl ?_));refine uI_ (ι:=Nat) (λi=>[.int .i64 (i:Int),nh_ a_ 1 (K_ (ss.take i)),.int .i64 (ss.length:Int)]) (λi=>i<=ss.length) (λi=>ss.length-i) 0 (Nat.zero_le _) rfl (λ_ _=>by simp only [okL,okC,si_ b_]) (λi j _ _ h=>?_) (λi hi=>?_)
  .have h:=(List.cons.inj h).1;injection h with _ h
   omega
  refine vC_ (run_lss ..) rfl (vl_ rfl (λhlt=>?_) (λhlt=>uH_ ?_));have hlt:(i:Int)<(ss.length:Int):=of_decide_eq_true hlt;have hlt:i<ss.length:=(by omega);have hb:=h ss[i] (List.getElem_mem hlt);have hc:=oR_ ss (i+1);rw [N_ ss hlt,List.length_append]at hc;refine vC_ (wv_ hlt) (wA_ h i) (vC_ (ww_ hlt) (hb.ok b_) (vC_ (A_ hb _ (by omega)) (si_ b_ _) (vC_ (run_add ..) rfl (uw_ rfl ⟨i+1,hlt,?_,?_⟩))));show [AV.int .i64 (IntKind.i64.wrap ((i:Int)+1)),nh_ a_ 1 (K_ (ss.take i)++ss[i].l),AV.int .i64 (ss.length:Int)]=[AV.int .i64 ((i+1:Nat):Int),nh_ a_ 1 (K_ (ss.take (i+1))),AV.int .i64 (ss.length:Int)];rw [es_ (by omega),N_ ss hlt];omega;have hlt:¬(i:Int)<(ss.length:Int):=of_decide_eq_false hlt;have ei:ss.take i=ss:=List.take_of_length_le (by omega);show nh_ a_ 1 (K_ (ss.take i))=cS_ a_ 1 (K_ ss);rw [ei,wd_ hne]
 .have hc:¬(0:Int)<((K_ ss).length:Int):=of_decide_eq_false hc;have hne:K_ ss=[]:=List.length_eq_zero_iff.1 (by omega);refine vC_ (vM_ ss) rfl ?_;refine uI_ (ι:=Nat) (λi=>[.int .i64 (i:Int),.nsl,.int .i64 (ss.length:Int)]) (λi=>i<=ss.length) (λi=>ss.length-i) 0 (Nat.zero_le _) rfl (λ_ _=>rfl) (λi j _ _ h=>?_) (λi hi=>?_)
  .have h:=(List.cons.inj h).1;injection h with _ h
   omega
  refine vC_ (run_lss ..) rfl (vl_ rfl (λhlt=>?_) (λhlt=>uH_ (by rw [hne];rfl)));have hlt:(i:Int)<(ss.length:Int):=of_decide_eq_true hlt;have hlt:i<ss.length:=(by omega);have hb:=h ss[i] (List.getElem_mem hlt);have hz:ss[i].l=[]:=(by have hc:=oR_ ss (i+1);rw [N_ ss hlt,List.length_append]at hc;have h0:(K_ ss).length=0:=(by rw [hne];rfl);exact List.length_eq_zero_iff.1 (by omega));have:=qq_ hb [] (by rw [hz];simp);rw [hz]at this;refine vC_ (wv_ hlt) (wA_ h i) (vC_ (ww_ hlt) (hb.ok b_) (vC_ this rfl (vC_ (run_add ..) rfl (uw_ rfl ⟨i+1,hlt,?_,?_⟩))));show [AV.int .i64 (IntKind.i64.wrap ((i:Int)+1)),AV.nsl,AV.int .i64 (ss.length:Int)]=[AV.int .i64 ((i+1:Nat):Int),AV.nsl,AV.int .i64 (ss.length:Int)];rw [es_ (by omega)];omega
end Go.Proofs.YtngajicbldemgaaGreatDoor.vars
set_option maxRecDepth 100000
set_option linter.unusedVariables false
set_option linter.unusedSimpArgs false
namespace Go.Proofs.YtngajicbldemgaaGreatDoor.vars
open Go Go.Sx
def c47:VC:=⟨⟨[],[]⟩,[],[],0,true,[]⟩
def t47:VT:=It Z4 [64,64] 65 (.done (.int .u64 9221120237041090561))<|Li (.ext 86) [64] 66<|.done (66)
def c48:VC:=⟨⟨[],[]⟩,[],[],0,true,[]⟩
def t48:VT:=Li (.ext 87) [64] 65<|.done (65)
def c45:VC:=⟨⟨[],[]⟩,[],[(0,[⟨[(5,.slx 0 0 0),(0,64),(4,.slx 0 1 1)],[],1,2,[⟨0,1,1,4,none⟩],[],[]⟩])],0,true,[]⟩
def t45:VT:=Li Qi [65,J 1] 66<|.loop 67 0 [66,.nsl] (.cons 2 (It Z2 [67,J 0] 69 (Li Z3 [J 8,67] 70<|Li (.bin .shr 105 false false) [64,70] 71<|Li (.conv 105 5) [71] 72<|Li Q6 [68,.agg [72]] 73<|Li Qi [67,J 1] 74<|.again 0 0 [74,73])<|.done (68)) .nil)
def c46:VC:=⟨⟨[],[]⟩,[(47,[none]),(45,[none]),(84,[none])],[],0,true,[]⟩
def t46:VT:=It Q2 [64,J 5] 67 (.call 47 [66] 68 [none]<|.call 84 [64] 69 [none]<|.call 45 [68,69] 70 [none]<|.done (70))<|Li (.conv 2 105) [65] 68<|.call 84 [64] 69 [none]<|.call 45 [68,69] 70 [none]<|.done (70)
def wL_:VC:=⟨⟨[],[]⟩,[(47,[none]),(46,[none])],[],0,true,[]⟩
def wm_:VT:=.call 47 [.flt .f64 0] 65 [none]<|It Qr [65,.int .u64 0] 66 (.done (.nsl))<|It Qh [64,J 0] 67 (.call 46 [.agg [J 1,64,.flt .f64 0]] 68 [none]<|Li Q6 [.vsl 7 1 [.int .u8 0,.int .u8 1,.int .u8 1,.int .u8 1,.int .u8 0,.int .u8 0,.int .u8 0],68] 69<|.done (69))<|Li Qh [64,J 1] 68<|It Q4 [68] 69 (.done (.nsl))<|.call 46 [.agg [J 1,64,.flt .f64 0]] 70 [none]<|Li Q6 [.vsl 7 1 [.int .u8 0,.int .u8 1,.int .u8 1,.int .u8 1,.int .u8 0,.int .u8 0,.int .u8 0],70] 71<|.done (71)
def wM_:VC:=⟨⟨[],[]⟩,[(47,[none]),(46,[none])],[],0,true,[]⟩
def wn_:VT:=.call 47 [.flt .f64 0] 65 [none]<|It Qr [65,.int .u64 0] 66 (.done (.nsl))<|Li Qs [64] 67<|Li Qt [67] 68<|Li Qc [64,68] 69<|It Q4 [69] 70 (.done (.nsl))<|.call 46 [.agg [J 2,64,.flt .f64 0]] 71 [none]<|Li Q6 [.vsl 7 1 [.int .u8 0,.int .u8 1,.int .u8 1,.int .u8 2,.int .u8 0,.int .u8 0,.int .u8 0],71] 72<|.done (72)
def wN_:VC:=⟨⟨[],[]⟩,[(47,[none]),(46,[none])],[],0,true,[]⟩
def wo_:VT:=.call 47 [.flt .f64 0] 65 [none]<|It Qr [65,.int .u64 0] 66 (.done (.nsl))<|Li Qu [64] 67<|Li Qv [67] 68<|Li Qc [64,68] 69<|It Q4 [69] 70 (.done (.nsl))<|.call 46 [.agg [J 3,64,.flt .f64 0]] 71 [none]<|Li Q6 [.vsl 7 1 [.int .u8 0,.int .u8 1,.int .u8 1,.int .u8 3,.int .u8 0,.int .u8 0,.int .u8 0],71] 72<|.done (72)
def wO_:VC:=⟨⟨[],[]⟩,[(47,[none]),(46,[none])],[],0,true,[]⟩
def wp_:VT:=.call 46 [.agg [J 4,64,.flt .f64 0]] 65 [none]<|Li Q6 [.vsl 7 1 [.int .u8 0,.int .u8 1,.int .u8 1,.int .u8 4,.int .u8 0,.int .u8 0,.int .u8 0],65] 66<|.done (66)
def wP_:VC:=⟨⟨[],[]⟩,[(47,[none]),(46,[none])],[],0,true,[]⟩
def wq_:VT:=.call 46 [.agg [J 5,J 0,64]] 65 [none]<|Li Q6 [.vsl 7 1 [.int .u8 0,.int .u8 1,.int .u8 1,.int .u8 5,.int .u8 0,.int .u8 0,.int .u8 0],65] 66<|.done (66)
def c18:VC:=⟨⟨[],[]⟩,[(25,[none]),(16,[none])],[],0,true,[]⟩
def t18:VT:=.call 25 [.vsl 1 7 [J 1,64,J 0,J 0,64,65,66]] 67 [none]<|Li Q1 [67] 68<|It Qj [68,J 7] 69 (.done (.nsl))<|Li Qw [64] 70<|Li Z1 [67,J 7] 71<|.call 16 [.vsl 2 1 [.vsl 1 1 [70],71]] 72 [none]<|.done (72)
def lF_ (v:PV):List AV:=[.int .i64 (v.k:Int),.int .i64 v.i,.flt .f64 v.f]
def bt_ (n:Nat):Int:=if nan n=true then 9221120237041090561 else (n:Int)
theorem wj_ (n:Nat):(XOp.ext 86).run Tryz.prog [.flt .f64 n]=some (.int .u64 (n:Int)):=by kernel_rfl
theorem wS_ (n:Nat):(XOp.ext 87).run Tryz.prog [.int .u64 (n:Int)]=some (.flt .f64 n):=by kernel_rfl
theorem p47 (n:Nat):ic_ Tryz.prog 47 [.flt .f64 n] (.int .u64 (bt_ n)):=by refine ua_ (sh:=[none]) (ls:=[.flt .f64 n]) (c:=c47) (n:=300) (t:=t47) mox ov rfl rfl rfl (λY _=>vK_ _) rfl (by kernel_rfl) λY hf hg=>?_;unfold t47;refine vC_ (uC_ ..) rfl (vl_ rfl (λh=>uH_ ?_) (λh=>vC_ (wj_ n) rfl (uH_ ?_)));have h:nan n=true:=h;exact congrArg (AV.int .u64) (if_pos h).symm;have h:nan n=false:=h;exact congrArg (AV.int .u64) (if_neg (by rw [h];exact Bool.false_ne_true)).symm
theorem p48 (n:Nat):ic_ Tryz.prog 48 [.int .u64 (n:Int)] (.flt .f64 n):=by refine ua_ (sh:=[none]) (ls:=[.int .u64 (n:Int)]) (c:=c48) (n:=300) (t:=t48) mox ov rfl rfl rfl (λY _=>vK_ _) rfl (by kernel_rfl) λY hf hg=>?_;unfold t48;exact vC_ (wS_ n) rfl (uH_ rfl)
theorem vX_ (P:Program) (t:TypeId) (cx cy:Bool) (v:Int) {i:Nat} (hi:i<=7):(XOp.bin .shr t cx cy).run P [.int .u64 v,.int .i64 (8*(i:Int))]=some (.int .u64 (v/((256^i:Nat):Int))):=by rcases (by omega:i=0\/i=1\/i=2\/i=3\/i=4\/i=5\/i=6\/i=7)with rfl|rfl|rfl|rfl|rfl|rfl|rfl|rfl;exact (show (XOp.bin .shr t cx cy).run P [.int .u64 v,.int .i64 0]=some (.int .u64 (v.fdiv 1)) by kernel_rfl).trans (by rw [Int.fdiv_eq_ediv_of_nonneg _ (by decide)];rfl);exact (show (XOp.bin .shr t cx cy).run P [.int .u64 v,.int .i64 8]=some (.int .u64 (v.fdiv 256)) by kernel_rfl).trans (by rw [Int.fdiv_eq_ediv_of_nonneg _ (by decide)];rfl);exact (show (XOp.bin .shr t cx cy).run P [.int .u64 v,.int .i64 16]=some (.int .u64 (v.fdiv 65536)) by kernel_rfl).trans (by rw [Int.fdiv_eq_ediv_of_nonneg _ (by decide)];rfl);exact (show (XOp.bin .shr t cx cy).run P [.int .u64 v,.int .i64 24]=some (.int .u64 (v.fdiv 16777216)) by kernel_rfl).trans (by rw [Int.fdiv_eq_ediv_of_nonneg _ (by decide)];rfl);exact (show (XOp.bin .shr t cx cy).run P [.int .u64 v,.int .i64 32]=some (.int .u64 (v.fdiv 4294967296)) by kernel_rfl).trans (by rw [Int.fdiv_eq_ediv_of_nonneg _ (by decide)];rfl);exact (show (XOp.bin .shr t cx cy).run P [.int .u64 v,.int .i64 40]=some (.int .u64 (v.fdiv 1099511627776)) by kernel_rfl).trans (by rw [Int.fdiv_eq_ediv_of_nonneg _ (by decide)];rfl);exact (show (XOp.bin .shr t cx cy).run P [.int .u64 v,.int .i64 48]=some (.int .u64 (v.fdiv 281474976710656)) by kernel_rfl).trans (by rw [Int.fdiv_eq_ediv_of_nonneg _ (by decide)];rfl);exact (show (XOp.bin .shr t cx cy).run P [.int .u64 v,.int .i64 56]=some (.int .u64 (v.fdiv 72057594037927936)) by kernel_rfl).trans (by rw [Int.fdiv_eq_ediv_of_nonneg _ (by decide)];rfl)
theorem p45 (v:Int) {n:Nat} (hn:n<=8):ic_ Tryz.prog 45 [.int .u64 v,.int .i64 (n:Int)] (cS_ a_ 1 (j_ v n)):=by
 refine ua_ (sh:=[none,none]) (ls:=[.int .u64 v,.int .i64 (n:Int)]) (c:=c45) (n:=300) (t:=t45) mox ov rfl rfl (qa_ (uh_ b_ _)) (λY _=>vK_ _) rfl (by kernel_rfl) λY hf hg=>?_;unfold t45;refine vC_ (r:=.int .i64 ((n:Int)-1)) ((run_sub ..).trans (by rw [vT_ (by omega) (by omega)])) rfl ?_;refine uI_ (ι:=Nat×List UInt8) (λq=>[.int .i64 ((q.1:Int)-1),cS_ a_ 1 q.2]) (λq=>q.1<=n/\q.2++j_ v q.1=j_ v n) (λq=>q.1) (n,[]) ⟨Nat.le_refl _,rfl⟩ rfl (λq _=>by simp only [okL,okC,uh_ b_]) (λq q' _ _ h=>?_) (λq hq=>?_)
 .have h:=(List.cons.inj h).1;injection h with _ h
  omega
 obtain ⟨r,o⟩:=q;obtain ⟨hr,he⟩:=hq;have hr:r<=n:=hr;have he:o++j_ v r=j_ v n:=he;refine vC_ (run_geq ..) rfl (vl_ rfl (λh=>?_) (λh=>uH_ ?_));have h:(0:Int)<=(r:Int)-1:=of_decide_eq_true h;obtain ⟨r,rfl⟩:∃r',r=r'+1:=⟨r-1,by omega⟩;have hl:=congrArg List.length he;rw [List.length_append,c_,c_]at hl;have h0:0<=(v/((256^r:Nat):Int))%256:=Int.emod_nonneg _ (by decide);have h1:(v/((256^r:Nat):Int))%256<256:=Int.emod_lt_of_pos _ (by decide);have e1:(((r+1:Nat):Int)-1)=(r:Int):=(by omega);refine vC_ (r:=.int .i64 (8*(r:Int))) ?_ rfl (vC_ (vX_ _ _ _ _ v (i:=r) (by omega)) rfl (vC_ (r:=.int .u8 ((UInt8.ofNat ((v/((256^r:Nat):Int))%256).toNat).toNat:Int)) ?_ rfl (vC_ (ud_ lenB (by decide) (by decide) o (UInt8.ofNat ((v/((256^r:Nat):Int))%256).toNat) (by omega)) (uh_ b_ _) (vC_ (run_sub ..) rfl (uw_ rfl ⟨(r,o++[UInt8.ofNat ((v/((256^r:Nat):Int))%256).toNat]),⟨?_,?_⟩,?_,?_⟩)))));show (XOp.bin .mul 3 true false).run Tryz.prog [.int .i64 8,.int .i64 (((r+1:Nat):Int)-1)]=_;rw [run_mul,e1,vT_ (by omega) (by omega)];rw [b1_ h0 h1];exact tK_ Tryz.underlying105 Tryz.underlying5 _;show r<=n;omega;show (o++[_])++j_ v r=j_ v n;rw [←he,List.append_assoc];rfl;show [AV.int .i64 (IntKind.i64.wrap ((((r+1:Nat):Int)-1)-1)),cS_ a_ 1 _]=[AV.int .i64 ((r:Int)-1),cS_ a_ 1 _];rw [vT_ (by omega) (by omega),e1];show r<r+1;omega;have h:¬(0:Int)<=(r:Int)-1:=of_decide_eq_false h;have:r=0:=(by omega);subst this;have:o=j_ v n:=(by rw [←he];simp [j_]);subst this;rfl
theorem v5_ {x y:Int} {n:Nat} (h:x%((256^n:Nat):Int)=y%((256^n:Nat):Int)):j_ x n=j_ y n:=by have h1:=D_ y n;have h2:=c_ y n;have:=M_ (j_ y n) x (x/((256^n:Nat):Int)) (by rw [h2,h1,←h,Int.mul_comm];exact (Int.emod_add_mul_ediv x _).symm);rw [h2]at this;exact this
theorem v6_ (x:Int) {n:Nat} (hn:n<=8):j_ (IntKind.u64.wrap x) n=j_ x n:=by
 refine v5_ ?_;have e:IntKind.u64.wrap x=x%18446744073709551616:=by simp [IntKind.wrap,IntKind.bits,IntKind.signed]
 rw [e];refine Int.emod_emod_of_dvd x ?_;rcases (by omega:n=0\/n=1\/n=2\/n=3\/n=4\/n=5\/n=6\/n=7\/n=8)with rfl|rfl|rfl|rfl|rfl|rfl|rfl|rfl|rfl<;>decide
theorem p84 {k:Nat} (h:1<=k/\k<=5):ic_ Tryz.prog 84 [.int .i64 (k:Int)] (.int .i64 (q_ k:Int)):=by rcases (by omega:k=1\/k=2\/k=3\/k=4\/k=5)with rfl|rfl|rfl|rfl|rfl<;>exact vq_ mox ov (n:=3000) (by kernel_rfl)
theorem J_ (k:Nat):q_ k<=8:=by unfold q_;split<;>decide
theorem p46 {v:PV} (h:1<=v.k/\v.k<=5):ic_ Tryz.prog 46 [.agg (lF_ v)] (cS_ a_ 1 (j_ (p_ v) (q_ v.k))):=by obtain ⟨k,i,f⟩:=v;have h:1<=k/\k<=5:=h;refine ua_ (sh:=[some 3]) (ls:=lF_ ⟨k,i,f⟩++[]) (c:=c46) (n:=300) (t:=t46) mox ov rfl rfl (qa_ (uh_ b_ _)) (λY _=>vK_ _) rfl (by kernel_rfl) λY hf hg=>?_;unfold t46;refine vC_ (run_eql ..) rfl (vl_ rfl (λh5=>?_) (λh5=>?_));have h5:(k:Int)=5:=of_decide_eq_true h5;have h5:k=5:=(by omega);refine uG_ (p47 f) rfl rfl (uG_ (p84 h) rfl rfl (uG_ (p45 _ (J_ k)) rfl (by show okL [cS_ a_ 1 _]=true;simp only [okL,uh_ b_]) (uH_ ?_)));show cS_ a_ 1 (j_ (bt_ f) (q_ k))=cS_ a_ 1 (j_ (p_ ⟨k,i,f⟩) (q_ k));rw [show p_ ⟨k,i,f⟩=bt_ f from if_pos h5];have h5:¬(k:Int)=5:=of_decide_eq_false h5;have h5:k≠5:=(by omega);refine vC_ (tK_ Tryz.underlying2 Tryz.underlying105 _) rfl (uG_ (p84 h) rfl rfl (uG_ (p45 _ (J_ k)) rfl (by show okL [cS_ a_ 1 _]=true;simp only [okL,uh_ b_]) (uH_ ?_)));show cS_ a_ 1 (j_ (IntKind.u64.wrap i) (q_ k))=cS_ a_ 1 (j_ (p_ ⟨k,i,f⟩) (q_ k));rw [show p_ ⟨k,i,f⟩=i from if_neg h5,v6_ i (J_ k)]
end Go.Proofs.YtngajicbldemgaaGreatDoor.vars
