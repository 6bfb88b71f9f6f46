/-
  The machine: copies, blocks, an instruction.
-/
import Derived.Test.YtelnbodnjmldeaaGreatWI
import Derived.Test.YtelnbodnjmldeaaGreatFA
import Derived.Test.YtelnbodnjmldeaaGreatXB
import Derived.Test.YtelnbodnjmldeaaGreatV4
import Derived.Test.YtelnbodnjmldeaaGreatSyS
set_option linter.all false
set_option maxHeartbeats 1000000
set_option maxRecDepth 100000
open List renaming mem_cons_self→za',mem_cons_of_mem→zc',getElem_mem→zd',append_assoc→ze'
open Nat renaming zero_le→zb'
namespace Go.Proofs.YtelnbodnjmldeaaGreat.vars
open Go Go.Sx
def II_:VC:=⟨⟨[],[]⟩,[(161,[none])],[(10005,[⟨[],[],0,0,[⟨2,3,21,0,none⟩],[],[]⟩])],1,true,[(123,S_),(162,Jm)]⟩
def ap:VT:=.lt (.opn 21 3) [66] 112 (some 63)<|Cf 162 Jm (Af 112 63++[111,93,105]) 175 12<|Dn [102,103,.vsl 21 3 (Af 112 36++Af 241 12++Af 160 15),104,105,106,107]
def fF:VT:=It Qb [74,J 1] 78 (Cf 123 S_ (Af 64 7) 79 9<|Cf 123 S_ [86,87,66,88,89,90,91] 95 9<|Li Qc [109,J 0] 111 ap)<|Cf 123 S_ (Af 64 7) 79 9<|Li Qc [93,J 0] 95<|.lt Z6 [66] 96 (some 63)<|Cf 162 Jm (Af 96 63++[95,J 0,89]) 159 12<|Dn [86,87,.vsl 21 3 (Af 96 36++Af 225 12++Af 144 15),88,89,90,91]
def vh:VC:=⟨⟨[],[]⟩,[(161,[none])],[(10005,[⟨[],[],0,0,[⟨2,3,21,0,none⟩],[],[]⟩])],1,true,[(123,S_),(163,IR)]⟩
def aa:VT:=.lt (.opn 21 3) [66] 112 (some 63)<|Cf 163 IR (Af 112 63++[111,93]) 175 9<|Dn [102,103,.vsl 21 3 (Af 112 48++Af 240 9++Af 169 6),104,105,106,107]
def mV:VT:=It Qb [74,J 1] 78 (Cf 123 S_ (Af 64 7) 79 9<|Cf 123 S_ [86,87,66,88,89,90,91] 95 9<|Li Qc [109,J 0] 111 aa)<|Cf 123 S_ (Af 64 7) 79 9<|Li Qc [93,J 0] 95<|.lt Z6 [66] 96 (some 63)<|Cf 163 IR (Af 96 63++[95,J 0]) 159 9<|Dn [86,87,.vsl 21 3 (Af 96 48++Af 224 9++Af 153 6),88,89,90,91]
def vI:VC:=⟨⟨[],[]⟩,[(161,[none])],[(10005,[⟨[],[],0,0,[⟨2,3,21,0,none⟩],[],[]⟩])],1,true,[(123,S_),(163,IY)]⟩
def WH:VT:=.lt (.opn 21 3) [66] 96 (some 63)<|Cf 163 IY (Af 96 63++[95,J 0]) 159 6<|Dn [86,87,.vsl 21 3 (Af 96 57++Af 224 6),88,89,90,91]
def jE:VT:=It Qb [74,J 1] 78 (Cf 123 S_ (Af 64 7) 79 9<|Cf 123 S_ [86,87,66,88,89,90,91] 95 9<|Li Qc [109,J 0] 111<|.lt Z6 [66] 112 (some 63)<|Cf 163 IY (Af 112 63++[111,93]) 175 6<|Dn [102,103,.vsl 21 3 (Af 112 57++Af 240 6),104,105,106,107])<|Cf 123 S_ (Af 64 7) 79 9<|Li Qc [93,J 0] 95 WH
def xX (n z:Nat) (cs:List AV):(XOp.bin .eql 34 false true).run Tryz.prog [.vsl n z cs,.nsl]=some (.bool false):=rfl
def LH:(XOp.bin .eql 34 false true).run Tryz.prog [.nsl,.nsl]=some (.bool true):=by kernel_rfl
def R41 (l:List FV):Nat->List AV->Prop:=λ_ ws=>∃s,St l s/\ws=[s]
def kR {l:List FV} {x:AV} (h:St l x) (hl:l.length<=1000):A6 42 Eb [x] (R41 l):=by refine BU uM cP rfl rfl (by kernel_rfl) λY hf hg=>?_;unfold cP;rcases h with rfl|⟨rfl,rfl⟩;obtain ⟨r,h1,h2⟩:=SlV.app (P:=Tryz.prog) (bytes:=24) FL (by decide) (by decide) (SlV.v []) (SlV.v l) (by simp;omega);rw [List.nil_append]at h2;exact Aa (xX _ _ _) rfl (AC (t:=false) rfl (λh=>by cases h) (λ_=>Aa h1 (St.okC h2) (Ai (by show Ak [r]=true;simp only [Ak,St.okC h2]) ⟨r,h2,rfl⟩)));exact Aa LH rfl (AC (t:=true) rfl (λ_=>Ai rfl ⟨.nsl,.inr ⟨rfl,rfl⟩,rfl⟩) (λh=>by cases h))
def xF (m:MS) (st mem:List FV):MS:=⟨m.pc,st,mem,m.used,m.now,m.over,m.err⟩
def MU (m:MS) (st mem:List FV):Nat->List AV->Prop:=λ_ ws=>∃s,St st s/\ws=KR (xF m st mem) s
def ZN {m:MS} {s:AV} {i:GI} {B:World} {pr:Nat->Prop} {E:Ag} {w:World} {us:List Value} (h:∀(j:Nat) (a:AV),(KR m s++n_ i)[j]? =some a->E.sy (64+j)=some a)
  (hr:Ao B pr E (Jn.ent.heap 64) w) (hc:Ah E (CE 64 (DB Jn.ent.slots)) us):Ao B pr E EJ w/\Ah E (Uf i.kd i.ad) us:=by
 refine ⟨hr,?_⟩;have e:CE 64 (DB Jn.ent.slots)=[.ptr 0 0,.agg [.sym 71,.sym 72,.sym 73,.sym 74,.sym 75,.sym 76,.sym 77]]:=by kernel_rfl
 rw [e]at hc;simp only [Ah]at hc;obtain ⟨v,r,h1,h2,v2,r2,h3,h4,h5⟩:=hc;simp only [Ac]at h4;obtain ⟨vs,h6,h7⟩:=h4;show Ah E [.ptr 0 0,.agg [.sym 71,.int .i64 i.kd,.int .i64 i.ad,.sym 74,.sym 75,.sym 76,.sym 77]] us;simp only [Ah];refine ⟨v,r,h1,h2,v2,r2,h3,?_,h5⟩;simp only [Ac];exact ⟨vs,h6,KT (a:=.sym 73) (λv hv=>S6 (h 9 _ rfl) hv) 2 [.sym 71,.int .i64 i.kd,.sym 73,.sym 74,.sym 75,.sym 76,.sym 77] _ rfl (KT (a:=.sym 72) (λv hv=>S6 (h 8 _ rfl) hv) 1 [.sym 71,.sym 72,.sym 73,.sym 74,.sym 75,.sym 76,.sym 77] _ rfl h7)⟩
def J9_ {mem:List FV} (hm:Aj mem) {pc used now err:Int} {over:Bool} {mst st:List FV} {s:AV} (hs:St st s) (hn: -9223372036854775808<=now/\now<=9223372036854775807) (inn:Bool) {v:Int} (hv: -9223372036854775808<=v/\v<=9223372036854775807) {Y:Sy} {L:List (Nat->List AV->Prop)}
  (h66:Y.v 66=some (b_ mem)) (hk:Ap Y.v (.sym 102)=.int .i64 pc/\Ap Y.v (.sym 103)=s/\Ap Y.v (.sym 104)=.int .i64 used/\Ap Y.v (.sym 105)=.int .i64 now/\Ap Y.v (.sym 106)=.bool over/\Ap Y.v (.sym 107)=.int .i64 err) (g0:Ap Y.v (.sym 111)=.bool inn) (g1:Ap Y.v (.sym 93)=.int .i64 v):AB Tryz.prog (QF (MU ⟨pc,mst,mem,used,now,over,err⟩ st (A_ now 6 mem inn v))) L Y ap:=by
 obtain ⟨k0,k1,k2,k3,k4,k5⟩:=hk;have hc:=sQ hm inn hv hn;obtain ⟨m0,m1,m2,m3,m4,m5,m6,m7,m8,m9,m10,m11,m12,m13,m14,m15,m16,m17,m18,m19,m20,rfl⟩:=ED hm.len;have hop:=Np (l:=[m0,m1,m2,m3,m4,m5,m6,m7,m8,m9,m10,m11,m12,m13,m14,m15,m16,m17,m18,m19,m20]) rfl;unfold ap;refine B3 (cs:=Ay f_ [m0,m1,m2,m3,m4,m5,m6,m7,m8,m9,m10,m11,m12,m13,m14,m15,m16,m17,m18,m19,m20]) (show (XOp.opn 21 3).run Tryz.prog (Am Y.v [.sym 66])=_ from by rw [show Am Y.v [.sym 66]=[b_ [m0,m1,m2,m3,m4,m5,m6,m7,m8,m9,m10,m11,m12,m13,m14,m15,m16,m17,m18,m19,m20]] from by simp only [Am,Ap,h66]];exact hop) rfl (A5 B2 _) ?_;have hd:Am (Y.puts 112 (Ay f_ [m0,m1,m2,m3,m4,m5,m6,m7,m8,m9,m10,m11,m12,m13,m14,m15,m16,m17,m18,m19,m20])).v (Af 112 63++[.sym 111,.sym 93,.sym 105])=Ay f_ [m0,m1,m2,m3,m4,m5,m6,m7,m8,m9,m10,m11,m12,m13,m14,m15,m16,m17,m18,m19,m20]++[.bool inn,.int .i64 v,.int .i64 now]:=by rw [Lx];refine congr (congrArg _ rfl) ?_;show [Ap Y.v (.sym 111),Ap Y.v (.sym 93),Ap Y.v (.sym 105)]=_;rw [g0,g1,k3]
 refine Bo (show A6 162 Jm (Am (Y.puts 112 (Ay f_ [m0,m1,m2,m3,m4,m5,m6,m7,m8,m9,m10,m11,m12,m13,m14,m15,m16,m17,m18,m19,m20])).v (Af 112 63++[.sym 111,.sym 93,.sym 105])) _ from by rw [hd];exact hc) (show Ak (Am (Y.puts 112 (Ay f_ [m0,m1,m2,m3,m4,m5,m6,m7,m8,m9,m10,m11,m12,m13,m14,m15,m16,m17,m18,m19,m20])).v (Af 112 63++[.sym 111,.sym 93,.sym 105]))=true from by rw [hd];exact A5.okL_join (A5 B2 _) rfl) ⟨?_,trivial⟩;intro ws hws;obtain ⟨x1,x2,x3,x4,e,_⟩:=WI m14.i m15.i inn (v:=v) (now:=now) hv.2 hn (((Aj.of.1 hm).2.2.2.2.2.2.2.2.2.2.2.2.2.2.2.2.1).1.i64);have hws:ws=Ay f_ (Ep m14.i m15.i inn v now):=hws;rw [e]at hws;subst hws;have hbk:A_ now 6 [m0,m1,m2,m3,m4,m5,m6,m7,m8,m9,m10,m11,m12,m13,m14,m15,m16,m17,m18,m19,m20] inn v=[m0,m1,m2,m3,m4,m5,m6,m7,m8,m9,m10,m11,x1,x2,x3,x4,m16,m17,m18,m19,m20]:=by show HC _ 12 (Ep m14.i m15.i inn v now)=_;rw [e];rfl
 rw [hbk];refine Ai (j:=0) (hv:=.sym 102::_) ?_ ?_;show Ak [Ap Y.v (.sym 102),Ap Y.v (.sym 103),b_ [m0,m1,m2,m3,m4,m5,m6,m7,m8,m9,m10,m11,x1,x2,x3,x4,m16,m17,m18,m19,m20],Ap Y.v (.sym 104),Ap Y.v (.sym 105),Ap Y.v (.sym 106),Ap Y.v (.sym 107)]=true;rw [k0,k1,k2,k3,k4,k5];exact Fe ⟨pc,st,[m0,m1,m2,m3,m4,m5,m6,m7,m8,m9,m10,m11,x1,x2,x3,x4,m16,m17,m18,m19,m20],used,now,over,err⟩ (St.okC hs);refine ⟨s,hs,?_⟩;show [Ap Y.v (.sym 102),Ap Y.v (.sym 103),b_ [m0,m1,m2,m3,m4,m5,m6,m7,m8,m9,m10,m11,x1,x2,x3,x4,m16,m17,m18,m19,m20],Ap Y.v (.sym 104),Ap Y.v (.sym 105),Ap Y.v (.sym 106),Ap Y.v (.sym 107)]=_;rw [k0,k1,k2,k3,k4,k5];rfl
def Ka_ {mem:List FV} (hm:Aj mem) {pc used now err:Int} {over:Bool} {mst st:List FV} {s:AV} (hs:St st s) (hn: -9223372036854775808<=now/\now<=9223372036854775807) (inn:Bool) {v:Int} (hv: -9223372036854775808<=v/\v<=9223372036854775807) {Y:Sy} {L:List (Nat->List AV->Prop)}
  (h66:Y.v 66=some (b_ mem)) (hk:Ap Y.v (.sym 102)=.int .i64 pc/\Ap Y.v (.sym 103)=s/\Ap Y.v (.sym 104)=.int .i64 used/\Ap Y.v (.sym 105)=.int .i64 now/\Ap Y.v (.sym 106)=.bool over/\Ap Y.v (.sym 107)=.int .i64 err) (g0:Ap Y.v (.sym 111)=.bool inn) (g1:Ap Y.v (.sym 93)=.int .i64 v):AB Tryz.prog (QF (MU ⟨pc,mst,mem,used,now,over,err⟩ st (A_ now 9 mem inn v))) L Y aa:=by
 obtain ⟨k0,k1,k2,k3,k4,k5⟩:=hk;have hc:=vS hm inn v;obtain ⟨m0,m1,m2,m3,m4,m5,m6,m7,m8,m9,m10,m11,m12,m13,m14,m15,m16,m17,m18,m19,m20,rfl⟩:=ED hm.len;have hop:=Np (l:=[m0,m1,m2,m3,m4,m5,m6,m7,m8,m9,m10,m11,m12,m13,m14,m15,m16,m17,m18,m19,m20]) rfl;unfold aa;refine B3 (cs:=Ay f_ [m0,m1,m2,m3,m4,m5,m6,m7,m8,m9,m10,m11,m12,m13,m14,m15,m16,m17,m18,m19,m20]) (show (XOp.opn 21 3).run Tryz.prog (Am Y.v [.sym 66])=_ from by rw [show Am Y.v [.sym 66]=[b_ [m0,m1,m2,m3,m4,m5,m6,m7,m8,m9,m10,m11,m12,m13,m14,m15,m16,m17,m18,m19,m20]] from by simp only [Am,Ap,h66]];exact hop) rfl (A5 B2 _) ?_;have hd:Am (Y.puts 112 (Ay f_ [m0,m1,m2,m3,m4,m5,m6,m7,m8,m9,m10,m11,m12,m13,m14,m15,m16,m17,m18,m19,m20])).v (Af 112 63++[.sym 111,.sym 93])=Ay f_ [m0,m1,m2,m3,m4,m5,m6,m7,m8,m9,m10,m11,m12,m13,m14,m15,m16,m17,m18,m19,m20]++[.bool inn,.int .i64 v]:=by rw [Lx];refine congr (congrArg _ rfl) ?_;show [Ap Y.v (.sym 111),Ap Y.v (.sym 93)]=_;rw [g0,g1]
 refine Bo (show A6 163 IR (Am (Y.puts 112 (Ay f_ [m0,m1,m2,m3,m4,m5,m6,m7,m8,m9,m10,m11,m12,m13,m14,m15,m16,m17,m18,m19,m20])).v (Af 112 63++[.sym 111,.sym 93])) _ from by rw [hd];exact hc) (show Ak (Am (Y.puts 112 (Ay f_ [m0,m1,m2,m3,m4,m5,m6,m7,m8,m9,m10,m11,m12,m13,m14,m15,m16,m17,m18,m19,m20])).v (Af 112 63++[.sym 111,.sym 93]))=true from by rw [hd];exact A5.okL_join (A5 B2 _) rfl) ⟨?_,trivial⟩;intro ws hws;obtain ⟨x1,x2,x3,e,_⟩:=Yw m18.i inn v (jc hm);have hws:ws=Ay f_ (Ef m17.i m18.i inn v):=hws;rw [e]at hws;subst hws;have hbk:A_ now 9 [m0,m1,m2,m3,m4,m5,m6,m7,m8,m9,m10,m11,m12,m13,m14,m15,m16,m17,m18,m19,m20] inn v=[m0,m1,m2,m3,m4,m5,m6,m7,m8,m9,m10,m11,m12,m13,m14,m15,x1,x2,x3,m19,m20]:=by show HC _ 16 (Ef m17.i m18.i inn v)=_;rw [e];rfl
 rw [hbk];refine Ai (j:=0) (hv:=.sym 102::_) ?_ ?_;show Ak [Ap Y.v (.sym 102),Ap Y.v (.sym 103),b_ [m0,m1,m2,m3,m4,m5,m6,m7,m8,m9,m10,m11,m12,m13,m14,m15,x1,x2,x3,m19,m20],Ap Y.v (.sym 104),Ap Y.v (.sym 105),Ap Y.v (.sym 106),Ap Y.v (.sym 107)]=true;rw [k0,k1,k2,k3,k4,k5];exact Fe ⟨pc,st,[m0,m1,m2,m3,m4,m5,m6,m7,m8,m9,m10,m11,m12,m13,m14,m15,x1,x2,x3,m19,m20],used,now,over,err⟩ (St.okC hs);refine ⟨s,hs,?_⟩;show [Ap Y.v (.sym 102),Ap Y.v (.sym 103),b_ [m0,m1,m2,m3,m4,m5,m6,m7,m8,m9,m10,m11,m12,m13,m14,m15,x1,x2,x3,m19,m20],Ap Y.v (.sym 104),Ap Y.v (.sym 105),Ap Y.v (.sym 106),Ap Y.v (.sym 107)]=_;rw [k0,k1,k2,k3,k4,k5];rfl
def qA {mem:List FV} (hm:Aj mem) {pc used now err:Int} {over:Bool} {mst st:List FV} {s:AV} (hs:St st s) (hn: -9223372036854775808<=now/\now<=9223372036854775807) (inn:Bool) {v:Int} (hv: -9223372036854775808<=v/\v<=9223372036854775807) {Y:Sy} {L:List (Nat->List AV->Prop)}
  (h66:Y.v 66=some (b_ mem)) (hk:Ap Y.v (.sym 86)=.int .i64 pc/\Ap Y.v (.sym 87)=s/\Ap Y.v (.sym 88)=.int .i64 used/\Ap Y.v (.sym 89)=.int .i64 now/\Ap Y.v (.sym 90)=.bool over/\Ap Y.v (.sym 91)=.int .i64 err) (g0:Ap Y.v (.sym 95)=.bool inn):AB Tryz.prog (QF (MU ⟨pc,mst,mem,used,now,over,err⟩ st (A_ now 11 mem inn 0))) L Y WH:=by
 obtain ⟨k0,k1,k2,k3,k4,k5⟩:=hk;have hc:=qN hm inn 0;obtain ⟨m0,m1,m2,m3,m4,m5,m6,m7,m8,m9,m10,m11,m12,m13,m14,m15,m16,m17,m18,m19,m20,rfl⟩:=ED hm.len;have hop:=Np (l:=[m0,m1,m2,m3,m4,m5,m6,m7,m8,m9,m10,m11,m12,m13,m14,m15,m16,m17,m18,m19,m20]) rfl;unfold WH;refine B3 (cs:=Ay f_ [m0,m1,m2,m3,m4,m5,m6,m7,m8,m9,m10,m11,m12,m13,m14,m15,m16,m17,m18,m19,m20]) (show (XOp.opn 21 3).run Tryz.prog (Am Y.v [.sym 66])=_ from by rw [show Am Y.v [.sym 66]=[b_ [m0,m1,m2,m3,m4,m5,m6,m7,m8,m9,m10,m11,m12,m13,m14,m15,m16,m17,m18,m19,m20]] from by simp only [Am,Ap,h66]];exact hop) rfl (A5 B2 _) ?_;have hd:Am (Y.puts 96 (Ay f_ [m0,m1,m2,m3,m4,m5,m6,m7,m8,m9,m10,m11,m12,m13,m14,m15,m16,m17,m18,m19,m20])).v (Af 96 63++[.sym 95,.int .i64 0])=Ay f_ [m0,m1,m2,m3,m4,m5,m6,m7,m8,m9,m10,m11,m12,m13,m14,m15,m16,m17,m18,m19,m20]++[.bool inn,.int .i64 0]:=by rw [Lx];refine congr (congrArg _ rfl) ?_;show [Ap Y.v (.sym 95),.int .i64 0]=_;rw [g0]
 refine Bo (show A6 163 IY (Am (Y.puts 96 (Ay f_ [m0,m1,m2,m3,m4,m5,m6,m7,m8,m9,m10,m11,m12,m13,m14,m15,m16,m17,m18,m19,m20])).v (Af 96 63++[.sym 95,.int .i64 0])) _ from by rw [hd];exact hc) (show Ak (Am (Y.puts 96 (Ay f_ [m0,m1,m2,m3,m4,m5,m6,m7,m8,m9,m10,m11,m12,m13,m14,m15,m16,m17,m18,m19,m20])).v (Af 96 63++[.sym 95,.int .i64 0]))=true from by rw [hd];exact A5.okL_join (A5 B2 _) rfl) ⟨?_,trivial⟩;intro ws hws;obtain ⟨x1,x2,e,_⟩:=(⟨_,_,rfl,trivial⟩:∃a b,E5 m20.i inn=[a,b]/\True);have hws:ws=Ay f_ (E5 m20.i inn):=hws;rw [e]at hws;subst hws;have hbk:A_ now 11 [m0,m1,m2,m3,m4,m5,m6,m7,m8,m9,m10,m11,m12,m13,m14,m15,m16,m17,m18,m19,m20] inn 0=[m0,m1,m2,m3,m4,m5,m6,m7,m8,m9,m10,m11,m12,m13,m14,m15,m16,m17,m18,x1,x2]:=by show HC _ 19 (E5 m20.i inn)=_;rw [e];rfl
 rw [hbk];refine Ai (j:=0) (hv:=.sym 86::_) ?_ ?_;show Ak [Ap Y.v (.sym 86),Ap Y.v (.sym 87),b_ [m0,m1,m2,m3,m4,m5,m6,m7,m8,m9,m10,m11,m12,m13,m14,m15,m16,m17,m18,x1,x2],Ap Y.v (.sym 88),Ap Y.v (.sym 89),Ap Y.v (.sym 90),Ap Y.v (.sym 91)]=true;rw [k0,k1,k2,k3,k4,k5];exact Fe ⟨pc,st,[m0,m1,m2,m3,m4,m5,m6,m7,m8,m9,m10,m11,m12,m13,m14,m15,m16,m17,m18,x1,x2],used,now,over,err⟩ (St.okC hs);refine ⟨s,hs,?_⟩;show [Ap Y.v (.sym 86),Ap Y.v (.sym 87),b_ [m0,m1,m2,m3,m4,m5,m6,m7,m8,m9,m10,m11,m12,m13,m14,m15,m16,m17,m18,x1,x2],Ap Y.v (.sym 88),Ap Y.v (.sym 89),Ap Y.v (.sym 90),Ap Y.v (.sym 91)]=_;rw [k0,k1,k2,k3,k4,k5];rfl
def uF {m:MS} {s:AV} {st inn:List FV} {i:GI} (hs:St (st++inn) s) (hl:st.length<=90) (hm:Aj m.mem) (hn: -9223372036854775808<=m.now/\m.now<=9223372036854775807) (hb:M0 i.kd i.ad (inn.map FV.k)) (hi:i.n=(inn.length:Int)) (tv:∀v∈inn,TV v):
  A6 124 Jn (KR m s++n_ i) (MU m st (A_ m.now i.kd m.mem (decide ((inn.headD FV.z).i≠0)) (inn.tail.headD FV.z).i)):=by
 obtain ⟨op,kd,ad,n,vk,vi,vf⟩:=i;simp only at hb hi;obtain ⟨pc,mst,mem,used,now,over,err⟩:=m;have hm:Aj mem:=hm;have hn: -9223372036854775808<=now/\now<=9223372036854775807:=hn;rcases hb with ⟨rfl,rfl,hk⟩|⟨rfl,rfl,hk⟩|⟨rfl,rfl,hk⟩
 .obtain ⟨a,b,rfl,ka,kb⟩:=JX hk;have hn2:n=2:=hi;have tb:=(tv b (zc' _ za')).1.i64;have hs':St ((st++[a])++[b]) s:=(by rw [List.append_assoc];exact hs);show A6 124 Jn _ (MU _ st (A_ now 6 mem (decide (¬a.i=0)) b.i));rw [decide_not];refine K6 (c:=II_) (ex:=[]) (ag:=Uf 6 12) (H:=EJ) (n:=300) (t:=fF) mo ov rfl (λY=>Ck _) rfl (λB pr E w us h _ hr hc=>ZN (i:=⟨op,6,12,n,vk,vi,vf⟩) h hr hc) (by kernel_rfl) λY hf hg=>?_;unfold fF
  (refine i_ rfl rfl ?_ ?_<;>intro h<;>simp only [nc]at h<;>try omega)
  refine Bo (GU (m:=⟨pc,mst,mem,used,now,over,err⟩) hs' (by simp;omega)) (show Ak (KR ⟨pc,mst,mem,used,now,over,err⟩ s)=true from Fe _ (St.okC hs)) ⟨?_,trivial⟩;rintro ws ⟨s0,hs0,rfl⟩;refine Bo (GU (m:=⟨pc,mst,mem,used,now,over,err⟩) hs0 (by omega)) (show Ak (KR ⟨pc,mst,mem,used,now,over,err⟩ s0)=true from Fe _ (St.okC hs0)) ⟨?_,trivial⟩;rintro ws ⟨s1,hs1,rfl⟩;exact Aa (Av ..) rfl (J9_ hm hs1 hn (!decide (a.i=0)) tb rfl ⟨rfl,rfl,rfl,rfl,rfl,rfl⟩ rfl rfl)
 .obtain ⟨a,b,rfl,ka,kb⟩:=JX hk;have hn2:n=2:=hi;have tb:=(tv b (zc' _ za')).1.i64;have hs':St ((st++[a])++[b]) s:=(by rw [List.append_assoc];exact hs);show A6 124 Jn _ (MU _ st (A_ now 9 mem (decide (¬a.i=0)) b.i));rw [decide_not];refine K6 (c:=vh) (ex:=[]) (ag:=Uf 9 16) (H:=EJ) (n:=300) (t:=mV) mo ov rfl (λY=>Ck _) rfl (λB pr E w us h _ hr hc=>ZN (i:=⟨op,9,16,n,vk,vi,vf⟩) h hr hc) (by kernel_rfl) λY hf hg=>?_;unfold mV
  (refine i_ rfl rfl ?_ ?_<;>intro h<;>simp only [nc]at h<;>try omega)
  refine Bo (GU (m:=⟨pc,mst,mem,used,now,over,err⟩) hs' (by simp;omega)) (show Ak (KR ⟨pc,mst,mem,used,now,over,err⟩ s)=true from Fe _ (St.okC hs)) ⟨?_,trivial⟩;rintro ws ⟨s0,hs0,rfl⟩;refine Bo (GU (m:=⟨pc,mst,mem,used,now,over,err⟩) hs0 (by omega)) (show Ak (KR ⟨pc,mst,mem,used,now,over,err⟩ s0)=true from Fe _ (St.okC hs0)) ⟨?_,trivial⟩;rintro ws ⟨s1,hs1,rfl⟩;exact Aa (Av ..) rfl (Ka_ hm hs1 hn (!decide (a.i=0)) tb rfl ⟨rfl,rfl,rfl,rfl,rfl,rfl⟩ rfl rfl)
 .obtain ⟨a,rfl,ka⟩:=Gp hk;have hn2:n=1:=hi;show A6 124 Jn _ (MU _ st (A_ now 11 mem (decide (¬a.i=0)) 0));rw [decide_not];refine K6 (c:=vI) (ex:=[]) (ag:=Uf 11 19) (H:=EJ) (n:=300) (t:=jE) mo ov rfl (λY=>Ck _) rfl (λB pr E w us h _ hr hc=>ZN (i:=⟨op,11,19,n,vk,vi,vf⟩) h hr hc) (by kernel_rfl) λY hf hg=>?_;unfold jE
  (refine i_ rfl rfl ?_ ?_<;>intro h<;>simp only [nc]at h<;>try omega)
  refine Bo (GU (m:=⟨pc,mst,mem,used,now,over,err⟩) hs (by omega)) (show Ak (KR ⟨pc,mst,mem,used,now,over,err⟩ s)=true from Fe _ (St.okC hs)) ⟨?_,trivial⟩;rintro ws ⟨s1,hs1,rfl⟩;exact Aa (Av ..) rfl (qA hm hs1 hn (!decide (a.i=0)) (v:=0) (by decide) rfl ⟨rfl,rfl,rfl,rfl,rfl,rfl⟩ rfl)
def UK (us:Int) (m q:MS):Nat->List AV->Prop:=λj ws=>
 (q.err=0/\j=0/\∃s,St q.st s/\ws=KR ⟨m.pc,q.st,q.mem,us,m.now,q.over,m.err⟩ s++[.int .i64 q.pc])\/(q.err≠0/\j=1/\ws=[.int .i64 q.err])
def Fg_ {Q:AV->Prop} {L:List (Nat->List AV->Prop)} {Y:Sy} {a:VT} (h:AB Tryz.prog Q L Y a):AB Tryz.prog Q L Y (.both a (.both a a)):=⟨h,h,h⟩
def v8 {op kd ad n:Int} {a b:FV} {mem:List FV} (h3:op≠3) (h17:op≠17):D5 mem op kd ad n a b=Dq op a b:=ey h3 h17
def Y9 {i:GI} {m:MS} {rest inn:List FV} (h:i.op<=17):CD i m rest inn=(match EO i m.mem (inn.headD FV.z) (inn.getLastD FV.z)with
 | .error e=>JK m e
 | .ok v=>Er m (m.pc+1) (rest++[v]) m.mem):=by unfold CD;exact Ad h
def I8 {us:Int} {m q:MS} {s:AV} (he:q.err=0) (hs:St q.st s) {hv:List AV} {Y:Sy} {L:List (Nat->List AV->Prop)} (h:Am Y.v hv=KR ⟨m.pc,q.st,q.mem,us,m.now,q.over,m.err⟩ s++[.int .i64 q.pc]):AB Tryz.prog (QF (UK us m q)) L Y (.done (.tup (.int .i64 0::hv))):=
 Ai (j:=0) (by rw [h];exact OB _ (St.okC hs) rfl) (.inl ⟨he,rfl,s,hs,h⟩)
def Tq {us e:Int} {m q:MS} (hq:q.err=e) (he:e≠0) {hv:List AV} {Y:Sy} {L:List (Nat->List AV->Prop)} (h:Am Y.v hv=[.int .i64 e]):AB Tryz.prog (QF (UK us m q)) L Y (.done (.tup (.int .i64 1::hv))):=
 Ai (j:=1) (by rw [h];rfl) (.inr ⟨by rw [hq];exact he,rfl,by rw [hq];exact h⟩)
def rp:VC:=⟨⟨[],[]⟩,[],[],1,true,[(121,z_),(122,VK),(123,S_),(124,Jn),(125,aW),(126,NJ)]⟩
def UF:VT:=.callF 122 VK (Af 64 14) 81 (.cons 7 (Li Q2 [66,101] 102<|.lt Qx [66,102] 103 (some 3)<|Cf 121 z_ [95,96,66,97,98,99,100,103,104,105] 106 6<|Li Q3 [116,J 1] 122<|Dn ([116,117,66]++Af 118 5)) (.cons 1 (.done (.tup [J 1,95])) .nil))
def mf:VT:=Iq 71 1 78 (Cf 121 z_ (Af 64 7++[75,76,77]) 79 6<|Li Q3 [89,J 1] 95<|Dn ([89,90,66]++Af 91 5))<|Iq 71 2 79 (Li Q2 [66,73] 80<|.lt Qx [66,80] 81 (some 3)<|Cf 121 z_ (Af 64 7++[81,82,83]) 84 6<|Li Q3 [94,J 1] 100<|Dn ([94,95,66]++Af 96 5))<|Iq 71 3 80 (.both UF<|.both UF UF)<|Iq 71 18 81 (Cf 123 S_ (Af 64 7) 82 9<|Li Q2 [66,73] 98<|Li Z1 [66,98,.agg [95,96,97]] 99<|Li Q3 [89,J 1] 100<|.chk (.same 66 99)<|Dn [89,90,99,91,92,93,94,100])<|Iq 71 19 82 (.callF 122 VK (Af 64 14) 83 (.cons 7 (Cf 123 S_ [97,98,66,99,100,101,102] 104 9<|Li Q2 [66,103] 120<|Li Z1 [66,120,.agg [117,118,119]] 121<|Li Q3 [111,J 1] 122<|.chk (.same 66 121)<|Dn [111,112,121,113,114,115,116,122]) (.cons 1 (.done (.tup [J 1,97])) .nil)))<|Iq 71 20 83 (Dn (Af 64 7++[73]))<|Iq 71 21 84 (Cf 123 S_ (Af 64 7) 85 9<|It Qt [99,J 0] 101 (Dn [92,93,66,94,95,96,97,73])<|Li Q3 [92,J 1] 102<|Dn [92,93,66,94,95,96,97,102])<|Iq 71 22 85 (Cf 124 Jn (Af 64 14) 86 7<|Li Q3 [100,J 1] 107<|Dn (Af 100 8))<|Iq 71 23 86 (Dn [64,65,66,67,68,.bool true,70,64])<|Iq 71 17 87 (.callF 125 aW (Af 64 14) 88 (.cons 6 (Li Q3 [102,J 1] 108<|Dn ([102,103,66]++Af 104 5)) (.cons 1 (.done (.tup [J 1,102])) .nil)))<|.callF 126 NJ (Af 64 14) 88 (.cons 6 (Li Q3 [102,J 1] 108<|Dn ([102,103,66]++Af 104 5)) (.cons 1 (.done (.tup [J 1,102])) .nil))
def Rt {m:MS} {i:GI} {rest inn:List FV} {v:FV} (h17:i.op<=17) (ht:EO i m.mem (inn.headD FV.z) (inn.getLastD FV.z)=.ok v):CD i m rest inn=Er m (m.pc+1) (rest++[v]) m.mem:=by rw [Y9 h17,ht]
def Y4 {m:MS} {i:GI} {rest inn:List FV} {e:Int} (h17:i.op<=17) (ht:EO i m.mem (inn.headD FV.z) (inn.getLastD FV.z)=.error e):CD i m rest inn=JK m e:=by rw [Y9 h17,ht]
def V6 {i:GI} {mem:List FV} {a b:FV} (h1:i.op≠1) (h2:i.op≠2):EO i mem a b=D5 mem i.op i.kd i.ad i.n a b:=by unfold EO;rw [Ab h1,Ab h2]
def yD {i:GI} {m:MS} {rest inn:List FV} (h:i.op=18):CD i m rest inn=Er m (m.pc+1) rest (m.mem.set i.ad.toNat (inn.headD FV.z)):=by unfold CD;rw [Ab (by omega),Ad h]
def oB {i:GI} {m:MS} {rest inn:List FV} (h:i.op=19):CD i m rest inn=if (inn.getLastD FV.z).i<0\/i.n<=(inn.getLastD FV.z).i then JK m 6 else Er m (m.pc+1) rest (m.mem.set (i.ad+(inn.getLastD FV.z).i).toNat (inn.headD FV.z)):=by unfold CD;rw [Ab (by omega),Ab (by omega),Ad h]
def IZ_ {i:GI} {m:MS} {rest inn:List FV} (h:i.op=20):CD i m rest inn=Er m i.ad rest m.mem:=by unfold CD;rw [Ab (by omega),Ab (by omega),Ab (by omega),Ad h]
def ub {i:GI} {m:MS} {rest inn:List FV} (h:i.op=21):CD i m rest inn=Er m (if (inn.headD FV.z).i=0 then i.ad else m.pc+1) rest m.mem:=by unfold CD;rw [Ab (by omega),Ab (by omega),Ab (by omega),Ab (by omega),Ad h]
def I1_ {i:GI} {m:MS} {rest inn:List FV} (h:i.op=22):CD i m rest inn=Er m (m.pc+1) rest (A_ m.now i.kd m.mem (decide ((inn.headD FV.z).i≠0)) (inn.tail.headD FV.z).i):=by unfold CD;rw [Ab (by omega),Ab (by omega),Ab (by omega),Ab (by omega),Ab (by omega),Ad h]
def I2_ {i:GI} {m:MS} {rest inn:List FV} (h:i.op=23):CD i m rest inn=⟨m.pc,rest,m.mem,m.used+1,m.now,true,m.err⟩:=by unfold CD;rw [Ab (by omega),Ab (by omega),Ab (by omega),Ab (by omega),Ab (by omega),Ab (by omega)]
def SM {inn:List FV} (h:inn.map FV.k=[]):inn=[]:=List.map_eq_nil_iff.1 h
def dZ {mem:List FV} {n:Nat} (h:n<mem.length):cell mem (n:Int)=mem[n]:=Tn h
def Y6 {us:Int} {m:MS} {s:AV} {st:List FV} {v:FV} {q:MS} (hs:St st s) (hl:st.length<=100) (hpc:0<=m.pc/\m.pc<=1000000) (he:m.err=0) (hq:q=Er m (m.pc+1) (st++[v]) m.mem) {Y:Sy} {L:List (Nat->List AV->Prop)} {hv hw:List AV} {n k:Nat} {x:AV} {t:TypeId}
  (h:Am Y.v hv=KR ⟨m.pc,m.st,m.mem,us,m.now,m.over,m.err⟩ s++f_ v)
  (hx:∀s',Ap ((Y.puts n (Am Y.v hv)).puts (n+10) (KS ⟨m.pc,m.st,m.mem,us,m.now,m.over,m.err⟩ s')).v x=.int .i64 m.pc)
  (hw':∀s',Am (((Y.puts n (Am Y.v hv)).puts (n+10) (KS ⟨m.pc,m.st,m.mem,us,m.now,m.over,m.err⟩ s')).put k (.int .i64 (m.pc+1))).v hw=KR ⟨m.pc,st++[v],m.mem,us,m.now,m.over,m.err⟩ s'++[.int .i64 (m.pc+1)]):
  AB Tryz.prog (QF (UK us m q)) L Y (.callF 121 z_ hv n (.cons 6 (.lt (.bin .add t false true) [x,.int .i64 1] k none (.done (.tup (.int .i64 0::hw)))) .nil)):=by
 have hp:=nC (m:=⟨m.pc,m.st,m.mem,us,m.now,m.over,m.err⟩) (v:=v) hs hl;rw [←h]at hp;refine Bo hp (by rw [h];exact OB _ (St.okC hs) (B2 v)) ⟨?_,trivial⟩;rintro ws ⟨s1,hs1,rfl⟩;subst hq;refine Aa (r:=.int .i64 (m.pc+1)) ?_ rfl (I8 (q:=Er m (m.pc+1) (st++[v]) m.mem) he hs1 (hw' s1));exact (congrArg (λz=>(XOp.bin .add t false true).run Tryz.prog [z,.int .i64 1]) (hx s1)).trans (q_ (by omega) (by omega))
def yx {m:MS} {s:AV} {i:GI} {T:List (List Int)} {p:Nat} (us:Int) (hs:St m.st s) (he:m.err=0) (hpc:0<=m.pc/\m.pc<=1000000) (hn: -9223372036854775808<=m.now/\m.now<=9223372036854775807) (hT:TI T p i (m.st.map FV.k)) (tv:∀v∈m.st,TV v) (hm:Aj m.mem):
  A6 83 ZA (KR ⟨m.pc,m.st,m.mem,us,m.now,m.over,m.err⟩ s++n_ i) (UK us m (CD i m (m.st.take (m.st.length-j_ i)) (m.st.drop (m.st.length-j_ i)))):=by
 obtain ⟨K0,ks,hK,hks,h40,hT⟩:=hT;obtain ⟨s1,s2⟩:=cE hK;have hst:m.st=m.st.take (m.st.length-j_ i)++m.st.drop (m.st.length-j_ i):=(List.take_append_drop _ _).symm;rw [hks]at s1 s2;have hl40:m.st.length<=40:=by rw [List.length_map]at h40;exact h40
 have hlr:(m.st.take (m.st.length-j_ i)).length<=40:=by rw [List.length_take];omega
 have v2:∀v∈m.st.drop (m.st.length-j_ i),TV v:=λv hv=>tv v (List.mem_of_mem_drop hv);have hlen:=hm.len;obtain ⟨pc,mst,mem,used,now,over,err⟩:=m;simp only at hs he hpc hn hst hl40 hlr v2 hlen hm s1 s2⊢;generalize mst.take (mst.length-j_ i)=rest at*;generalize mst.drop (mst.length-j_ i)=inn at*;subst hst he;clear hK h40 tv;obtain ⟨op,kd,ad,n,vk,vi,vf⟩:=i;simp only at hT;refine BU rp mf rfl rfl (by kernel_rfl) λY hf hg=>?_;unfold mf;have okK:=λl (h:Ak l=true)=>OB ⟨pc,rest++inn,mem,us,now,over,0⟩ (St.okC hs) (l:=l) h;have Cx:=okK (n_ ⟨op,kd,ad,n,vk,vi,vf⟩) rfl;have ok0:Ak (KR ⟨pc,rest++inn,mem,us,now,over,0⟩ s)=true:=Fe _ (St.okC hs);rcases hT with ⟨k,hk,hT⟩|⟨hk,hT⟩|⟨h20,q,hq,hT⟩|h23
 .rcases hT with ⟨h1,h2,h3⟩|⟨h1,h2⟩|⟨h1,h2,h3,h4,h5⟩|⟨h1,h2,h3,h4,h5,h6⟩|⟨h1,h2,h3⟩
  .subst h1;have hk0:ks=[]:=List.length_eq_zero_iff.1 hks;obtain rfl:=SM (s2.trans hk0);rw [List.append_nil]at*;rw [Rt (v:=⟨vk,vi,some vf⟩) (by show (1:Int)<=17;decide) rfl]
   (refine i_ rfl rfl ?_ ?_<;>intro h<;>simp only [nc]at h<;>try omega)
   exact Y6 (m:=⟨pc,rest,mem,used,now,over,0⟩) (v:=⟨vk,vi,some vf⟩) hs (by omega) hpc rfl rfl rfl (λs'=>rfl) (λs'=>rfl)
  .subst h1;have hk0:ks=[]:=List.length_eq_zero_iff.1 hks;obtain rfl:=SM (s2.trans hk0);rw [List.append_nil]at*;obtain ⟨c1,c2,c3⟩:=Et _ h2;simp only at c1 c2;obtain ⟨j,rfl⟩:∃j:Nat,ad=(j:Int):=⟨ad.toNat,by omega⟩;have hj:j<mem.length:=(by omega);rw [Rt (v:=mem[j]) (by show (2:Int)<=17;decide) (by show Except.ok (cell mem (j:Int))=_;rw [dZ hj])]
   (refine i_ rfl rfl ?_ ?_<;>intro h<;>simp only [nc]at h<;>try omega)
   (refine i_ rfl rfl ?_ ?_<;>intro h<;>simp only [nc]at h<;>try omega)
   refine Aa (D_ mem hj) rfl (B3 (PZ mem hj) rfl (B2 _) ?_);exact Y6 (m:=⟨pc,rest,mem,used,now,over,0⟩) (v:=mem[j]) hs (by omega) hpc rfl rfl rfl (λs'=>rfl) (λs'=>rfl)
  .subst h1 h2 h3;obtain ⟨x,rfl,hxk⟩:∃x,inn=[x]/\(x.k=2\/x.k=3):=by rcases h5 with h5|h5;obtain ⟨x,e,hx⟩:=Gp (s2.trans h5);exact ⟨x,e,.inl hx⟩;obtain ⟨x,e,hx⟩:=Gp (s2.trans h5);exact ⟨x,e,.inr hx⟩
   (refine i_ rfl rfl ?_ ?_<;>intro h<;>simp only [nc]at h<;>try omega)
   (refine i_ rfl rfl ?_ ?_<;>intro h<;>simp only [nc]at h<;>try omega)
   (refine i_ rfl rfl ?_ ?_<;>intro h<;>simp only [nc]at h<;>try omega)
   refine Fg_ ?_;unfold UF;refine Bo (cN (m:=⟨pc,rest++[x],mem,us,now,over,0⟩) (i:=⟨3,kd,8,4,vk,vi,vf⟩) hs (by omega) rfl rfl) Cx ⟨?_,?_,trivial⟩;rintro ws (⟨_,h0,_⟩|⟨hr,_,s3,hs3,rfl⟩);cases h0;have hr:¬(x.i<0\/4<=x.i):=hr;obtain ⟨j,hj0⟩:∃j:Nat,8+x.i=(j:Int):=⟨(8+x.i).toNat,by omega⟩;have hj:j<mem.length:=(by omega);rw [Rt (v:=mem[j]) (by show (3:Int)<=17;decide) (by rw [V6 (by show (3:Int)≠1;decide) (by show (3:Int)≠2;decide)];show (if (3:Int)=3 then (if x.i<0\/4<=x.i then Except.error 6 else Except.ok (cell mem (8+x.i)))else _)=_;rw [Ad rfl,Ab hr,hj0,dZ hj])];show AB _ _ _ (Sy.puts _ _ (KS _ s3++[.int .i64 (8+x.i)])) _;rw [hj0];refine Aa (D_ mem hj) rfl (B3 (PZ mem hj) rfl (B2 _) ?_);exact Y6 (m:=⟨pc,rest++[x],mem,used,now,over,0⟩) (v:=mem[j]) hs3 (by omega) hpc rfl rfl rfl (λs'=>rfl) (λs'=>rfl);rintro ws (⟨hr,_,rfl⟩|⟨_,h0,_⟩);have hr:x.i<0\/4<=x.i:=hr;exact Tq (by rw [Y4 (e:=6) (by show (3:Int)<=17;decide) (by rw [V6 (by show (3:Int)≠1;decide) (by show (3:Int)≠2;decide)];show (if (3:Int)=3 then (if x.i<0\/4<=x.i then Except.error 6 else Except.ok (cell mem (8+x.i)))else _)=_;rw [Ad rfl,Ad hr])];rfl) (by decide) rfl;cases h0
  .subst h1 h4;obtain ⟨a,rfl,ha⟩:=Gp (s2.trans h5);have ht:EO ⟨17,k,ad,n,vk,vi,vf⟩ mem a a=J_ k a:=by rw [V6 (by show (17:Int)≠1;decide) (by show (17:Int)≠2;decide)];show (if (17:Int)=3 then _ else if (17:Int)=17 then J_ k a else _)=_;rw [Ab (by decide),Ad rfl]
   have hc:=x9 (m:=⟨pc,rest++[a],mem,us,now,over,0⟩) (i:=⟨17,k,ad,n,vk,vi,vf⟩) hs (by omega) ⟨h2,h3⟩ h6 (v2 a za') ha;repeat (refine i_ rfl rfl ?_ ?_<;>intro h<;>simp only [nc]at h<;>try omega)
   refine Bo hc Cx ⟨?_,?_,trivial⟩;rintro ws (⟨v,s3,hv,_,hs3,rfl⟩|⟨_,_,h0,_⟩);rw [Rt (v:=v) (by show (17:Int)<=17;decide) (ht.trans hv)];exact Aa (q_ (x:=pc) (by omega) (by omega)) rfl (I8 (s:=s3) rfl hs3 rfl);cases h0;rintro ws (⟨_,_,_,h0,_⟩|⟨e,hv,_,rfl⟩);cases h0;have he:=iG hv;exact Tq (by rw [Y4 (e:=e) (by show (17:Int)<=17;decide) (ht.trans hv)];rfl) (by omega) rfl
  .have hop:=h1;unfold CS at hop;have key:∃a b,inn.headD FV.z=a/\inn.getLastD FV.z=b/\A6 126 NJ (KR ⟨pc,rest++inn,mem,us,now,over,0⟩ s++n_ ⟨op,kd,ad,n,vk,vi,vf⟩) (Kh ⟨pc,rest++inn,mem,us,now,over,0⟩ rest (Dq op a b)):=(by rcases h3 with ⟨h3,h4⟩|⟨h3,h4⟩;obtain ⟨a,rfl,ha⟩:=Gp (s2.trans h3);exact ⟨a,a,rfl,rfl,sB (i:=⟨op,kd,ad,n,vk,vi,vf⟩) hs (by omega) h1 h4 (v2 a za') ha⟩;obtain ⟨a,b,rfl,ha,hb⟩:=JX (s2.trans h3);exact ⟨a,b,rfl,rfl,rF (i:=⟨op,kd,ad,n,vk,vi,vf⟩) hs (by omega) h1 h4 (v2 a za') (v2 b (zc' _ za')) ha hb⟩);obtain ⟨a,b,ea,eb,hc⟩:=key;have h317:op≠3/\op≠17:=⟨by omega,by omega⟩;have ht:EO ⟨op,kd,ad,n,vk,vi,vf⟩ mem a b=Dq op a b:=(by rw [V6 (by show op≠1;omega) (by show op≠2;omega)];exact v8 h317.1 h317.2);rw [←ea,←eb]at ht;rw [←ea,←eb]at hc;clear ea eb h1 h2 h3;repeat (refine i_ rfl rfl ?_ ?_<;>intro h<;>simp only [nc]at h<;>try omega)
   refine Bo hc Cx ⟨?_,?_,trivial⟩;rintro ws (⟨v,s3,hv,_,hs3,rfl⟩|⟨_,_,h0,_⟩);rw [Rt (v:=v) (by show op<=17;omega) (ht.trans hv)];exact Aa (q_ (x:=pc) (by omega) (by omega)) rfl (I8 (s:=s3) rfl hs3 rfl);cases h0;rintro ws (⟨_,_,_,h0,_⟩|⟨e,hv,_,rfl⟩);cases h0;have he:e≠0:=(by unfold Dq at hv;split at hv;cases hv;rename_i h;cases hv;exact h);exact Tq (by rw [Y4 (e:=e) (by show op<=17;omega) (ht.trans hv)];rfl) he rfl
 .rcases hT with ⟨h1,k,h2,h3⟩|⟨h1,h2,h3,h4⟩|⟨h1,h2,h3⟩|⟨h1,h2,q,h3,h4⟩
  .subst h1;obtain ⟨v,rfl,hv⟩:=Gp (s2.trans h2);obtain ⟨c1,c2,c3⟩:=JZ _ h3;simp only at c1 c2;obtain ⟨j,rfl⟩:∃j:Nat,ad=(j:Int):=⟨ad.toNat,by omega⟩;have hj:j<mem.length:=(by omega);rw [yD rfl];repeat (refine i_ rfl rfl ?_ ?_<;>intro h<;>simp only [nc]at h<;>try omega)
   refine Bo (GU (m:=⟨pc,rest++[v],mem,us,now,over,0⟩) hs (by omega)) ok0 ⟨?_,trivial⟩;rintro ws ⟨s3,hs3,rfl⟩;refine Aa (D_ mem hj) rfl (Aa (J3 mem hj v) (x_ _) (Aa (q_ (x:=pc) (by omega) (by omega)) rfl (Cg (RV mem j v) ?_)));exact I8 (s:=s3) rfl hs3 rfl
  .subst h1 h2 h3;obtain ⟨v,x,rfl,hv,hx⟩:∃v x,inn=[v,x]/\v.k=2/\(x.k=2\/x.k=3):=by rcases h4 with h4|h4;obtain ⟨v,x,e,h,h'⟩:=JX (s2.trans h4);exact ⟨v,x,e,h,.inl h'⟩;obtain ⟨v,x,e,h,h'⟩:=JX (s2.trans h4);exact ⟨v,x,e,h,.inr h'⟩
   have hs':St ((rest++[v])++[x]) s:=(by rw [List.append_assoc];exact hs);have hq:=oB (i:=⟨19,kd,8,4,vk,vi,vf⟩) (m:=⟨pc,rest++[v,x],mem,used,now,over,0⟩) (rest:=rest) (inn:=[v,x]) rfl;have hq:CD _ _ _ _=if x.i<0\/4<=x.i then _ else Er _ _ rest (mem.set (8+x.i).toNat v):=hq
   repeat (refine i_ rfl rfl ?_ ?_<;>intro h<;>simp only [nc]at h<;>try omega)
   refine Bo (cN (m:=⟨pc,rest++[v,x],mem,us,now,over,0⟩) (i:=⟨19,kd,8,4,vk,vi,vf⟩) hs' (by simp;omega) rfl rfl) Cx ⟨?_,?_,trivial⟩;rintro ws (⟨_,h0,_⟩|⟨hr,_,s3,hs3,rfl⟩);cases h0;have hr:¬(x.i<0\/4<=x.i):=hr;rw [Ab hr]at hq;rw [hq];refine Bo (GU (m:=⟨pc,rest++[v,x],mem,us,now,over,0⟩) hs3 (by omega)) (show Ak (KR _ s3)=true from Fe ⟨pc,rest++[v,x],mem,us,now,over,0⟩ (St.okC hs3)) ⟨?_,trivial⟩;rintro ws ⟨s4,hs4,rfl⟩;obtain ⟨j,hj0⟩:∃j:Nat,8+x.i=(j:Int):=⟨(8+x.i).toNat,by omega⟩;have hj:j<mem.length:=(by omega);have hib:(XOp.inb).run Tryz.prog [b_ mem,.int .i64 (8+x.i)]=some (.int .i64 (j:Int)):=(by rw [hj0];exact D_ mem hj);have hjn:(8+x.i).toNat=j:=(by omega);rw [hjn];refine Aa hib rfl (Aa (J3 mem hj v) (x_ _) (Aa (q_ (x:=pc) (by omega) (by omega)) rfl (Cg (RV mem j v) ?_)));exact I8 (s:=s4) rfl hs4 rfl;rintro ws (⟨hr,_,rfl⟩|⟨_,h0,_⟩);have hr:x.i<0\/4<=x.i:=hr;rw [Ad hr]at hq;exact Tq (by rw [hq];rfl) (by decide) rfl;cases h0
  .subst h1;rw [←s2]at h2 h3;rw [List.length_map]at h3;have hc:=uF (m:=⟨pc,rest++inn,mem,us,now,over,0⟩) (i:=⟨22,kd,ad,n,vk,vi,vf⟩) hs (by omega) hm hn h2 h3 v2;rw [I1_ rfl];repeat (refine i_ rfl rfl ?_ ?_<;>intro h<;>simp only [nc]at h<;>try omega)
   refine Bo hc Cx ⟨?_,trivial⟩;rintro ws ⟨s3,hs3,rfl⟩;exact Aa (q_ (x:=pc) (by omega) (by omega)) rfl (I8 (s:=s3) rfl hs3 rfl)
  .subst h1;obtain ⟨x,rfl,hx⟩:=Gp (s2.trans h2);rw [ub rfl];repeat (refine i_ rfl rfl ?_ ?_<;>intro h<;>simp only [nc]at h<;>try omega)
   refine Bo (GU (m:=⟨pc,rest++[x],mem,us,now,over,0⟩) hs (by omega)) ok0 ⟨?_,trivial⟩;rintro ws ⟨s3,hs3,rfl⟩
   (refine i_ rfl rfl ?_ ?_<;>intro h<;>simp only [nc]at h<;>try omega)
   refine I8 (s:=s3) rfl hs3 ?_;show _=KR _ s3++[.int .i64 (if x.i=0 then ad else pc+1)];rw [Ad h];rfl;refine Aa (q_ (x:=pc) (by omega) (by omega)) rfl (I8 (s:=s3) rfl hs3 ?_);show _=KR _ s3++[.int .i64 (if x.i=0 then ad else pc+1)];rw [Ab h];rfl
 .subst h20;have hk0:ks=[]:=List.length_eq_zero_iff.1 hks;obtain rfl:=SM (s2.trans hk0);rw [List.append_nil]at*;rw [IZ_ rfl];repeat (refine i_ rfl rfl ?_ ?_<;>intro h<;>simp only [nc]at h<;>try omega)
  exact I8 (s:=s) rfl hs rfl
 .subst h23;have hk0:ks=[]:=List.length_eq_zero_iff.1 hks;obtain rfl:=SM (s2.trans hk0);rw [List.append_nil]at*;rw [I2_ rfl];repeat (refine i_ rfl rfl ?_ ?_<;>intro h<;>simp only [nc]at h<;>try omega)
  exact I8 (s:=s) rfl hs rfl
def uH:VC:=⟨⟨[],[]⟩,[],[],0,true,[]⟩
def oJ:VT:=It Zf [64,64] 65 (.done (.int .u64 9221120237041090561))<|Li (.ext 159) [64] 66<|.done (66)
def sN:VC:=⟨⟨[],[]⟩,[(119,[none])],[],0,true,[]⟩
def iT:VT:=.call 119 [64] 66 [none]<|.call 119 [65] 67 [none]<|Li (.bin .eql 182 false false) [66,67] 68<|.done (68)
def wZ:VC:=⟨⟨[],[]⟩,[(89,[none])],[],0,true,[]⟩
def iO:VT:=It Q9 [64,67] 70 (It Qq [65,68] 71 (.call 89 [66,69] 72 [none]<|.done (72))<|.done (.bool false))<|.done (.bool false)
def tn:Option Nat->Int
 |none=>9221120237041090561
 |some n=>if CG n=true then 9221120237041090561 else (n:Int)
def Ep_ (n:Nat):(XOp.ext 159).run Tryz.prog [.flt .f64 n]=some (.int .u64 (n:Int)):=by kernel_rfl
def pg (o:Option Nat):AQ 119 [fv o] (.int .u64 (tn o)):=by
 refine BV [none] [fv o] uH oJ rfl (Rm o) rfl rfl rfl (by kernel_rfl) λY hf hg=>?_;unfold oJ;refine Aa (NR ..) rfl (AC rfl (λh=>?_) (λh=>?_))
 .rw [UE]at h;refine As ?_;cases o with
  |none=>rfl
  |some n=>show AV.int _ _=AV.int _ (if CG n=true then 9221120237041090561 else (n:Int));exact congrArg (AV.int .u64) (Ad h).symm
 .rw [UE]at h;cases o with
  |none=>cases h
  |some n=>refine Aa (Ep_ n) rfl (As ?_);show AV.int _ _=AV.int _ (if CG n=true then 9221120237041090561 else (n:Int));rw [Ab (by rw [show CG n=false from h];exact Bool.false_ne_true)]
def sA (o:Option Nat):AQ 89 [fv o,fv o] (.bool true):=by refine BV [none,none] [fv o,fv o] sN iT rfl (by simp only [Ak,C3]) rfl rfl rfl (by kernel_rfl) λY hf hg=>?_;unfold iT;exact Ar (pg o) rfl rfl (Ar (pg o) rfl rfl (Aa (Aw ..) rfl (As (congrArg AV.bool (AX rfl)))))
def sW (v:FV):AQ 48 [.agg (f_ v),.agg (f_ v)] (.bool true):=by
 refine BV [some 3,some 3] (f_ v++f_ v) wZ iO rfl (A5.okL_join (B2 v) (B2 v)) rfl rfl rfl (by kernel_rfl) λY hf hg=>?_;unfold iO
 (refine d_ rfl rfl ?_ ?_<;>intro h<;>try omega)
 (refine d_ rfl rfl ?_ ?_<;>intro h<;>try omega)
 exact Ar (sA v.f) rfl rfl (As rfl)
def rB:VC:=⟨⟨[],[]⟩,[(48,[none])],[(0,[⟨[(5,.slx 0 0 0),(1,65),(0,64)],[],0,1,[],[],[]⟩])],0,true,[]⟩
def Gb:VT:=Li Qz [64] 66<|Li Qz [65] 67<|It Qd [66,67] 68 (.done (.bool false))<|.loop 69 0 [J 0] (.cons 1 (Li Qz [64] 70<|It Q5 [69,70] 71 (Li Qw [64,69] 72<|.lt Zc [72] 73 (some 3)<|Li Qw [65,69] 76<|.lt Zc [76] 77 (some 3)<|.call 48 [.agg [73,74,75],.agg [77,78,79]] 80 [none]<|It Q6 [80] 81 (.done (.bool false))<|Li Q3 [69,J 1] 82<|.again 0 0 [82])<|.done (.bool true)) .nil)
def W0 {l:List FV} (hl:l.length<=1000):AQ 19 [b_ l,b_ l] (.bool true):=by
 refine BV [none,none] [b_ l,b_ l] rB Gb rfl (by simp only [Ak,x_]) rfl rfl rfl (by kernel_rfl) λY hf hg=>?_;unfold Gb;refine Aa (PJ l) rfl (Aa (PJ l) rfl ?_)
 (refine i_ rfl rfl ?_ ?_<;>intro h<;>simp only [nc]at h<;>try omega)
 refine D3 (ι:=Nat) (λi=>[.int .i64 (i:Int)]) (λi=>i<=l.length) (λi=>l.length-i) 0 (zb' _) rfl (λ_ _=>rfl) (λs s' _ _ h=>by simp at h;omega) (λi hi=>?_);refine Aa (PJ l) rfl ?_
 (refine i_ rfl rfl ?_ ?_<;>intro h<;>simp only [nc]at h<;>try omega)
 have hi:i<l.length:=(by omega);refine Aa (nQ l hi) (A5 B2 _) (B3 (jQ l hi) rfl (B2 _) ?_);refine Aa (nQ l hi) (A5 B2 _) (B3 (jQ l hi) rfl (B2 _) ?_);refine Ar (sW l[i]) rfl rfl (Aa (r:=.bool false) rfl rfl (AC (t:=false) rfl (λh=>by cases h) (λ_=>?_)));exact Aa (q_ (by omega) (by omega)) rfl (CX rfl ⟨i+1,hi,rfl,by omega⟩);exact As rfl
def qh:VC:=⟨⟨[],[]⟩,[],[],0,true,[]⟩
def lb:VT:=It Zj [64,.nsl] 66 (.done (.agg [J 0,.nsl,.nsl,J 0,65,.bool false,J 0]))<|Li Qe [.vsl 0 3 [],64] 67<|.done (.agg [J 0,.nsl,67,J 0,65,.bool false,J 0])
def sm:VC:=⟨⟨[],[]⟩,[],[],0,true,[(42,Eb),(83,ZA)]⟩
def TW:VT:=Cf 42 Eb [66] 73 1<|Cf 42 Eb [67] 75 1<|Li Q3 [68,J 1] 77<|Li Qk [64,65] 78<|.lt Qy [78] 79 (some 7)<|.callF 83 ZA ([65,74,76,77,69,70,71]++Af 79 7) 86 (.cons 8 (Dn ([107]++Af 101 6)) (.cons 1 (Cf 42 Eb [66] 101 1<|Cf 42 Eb [67] 103 1<|Li Q3 [68,J 1] 105<|Dn [65,102,104,105,69,70,100]) .nil))
def pm:VT:=.ite 70 (Cf 42 Eb [66] 72 1<|Cf 42 Eb [67] 74 1<|Dn [65,73,75,68,69,70,71])<|It Q7 [71,J 0] 72 (Cf 42 Eb [66] 73 1<|Cf 42 Eb [67] 75 1<|Dn [65,74,76,68,69,70,71])<|.both (.both TW TW) TW
def Sw (mem:List FV) (now:Int):MS:=⟨0,[],mem,0,now,false,0⟩
def qB {mem:List FV} (hm:Aj mem) (now:Int):AQ 39 [b_ mem,.int .i64 now] (.agg (KR (Sw mem now) .nsl)):=by refine BV [none,none] [b_ mem,.int .i64 now] qh lb rfl (by simp only [Ak,okC,x_]) (WN (Fe (Sw mem now) rfl)) rfl rfl (by kernel_rfl) λY hf hg=>?_;unfold lb;exact Aa (Fz_ hm) rfl (AC rfl (λh=>by cases h) (λ_=>Aa (gP hm) (x_ mem) (As rfl)))
def tM {Q:AV->Prop} {L:List (Nat->List AV->Prop)} {Y:Sy} {a:VT} (h:AB Tryz.prog Q L Y a):AB Tryz.prog Q L Y (.both (.both a a) a):=⟨⟨h,h⟩,h⟩
def il (m:MS):Nat->List AV->Prop:=λ_ ws=>∃s,St m.st s/\ws=KR m s
def uV (l:List GI) (m:MS) {s:AV} (hs:okC s=true) {r:List AV} (hr:Ak r=true):Ak (m_ l::(KR m s++r))=true:=by rw [CL,okI l];exact OB m hs hr
def Wi {mem:List FV} (hm:Aj mem) {s:AV} (h:St mem s):s=b_ mem:=SlV.eq h (λe=>by have:=hm.len;rw [e]at this;cases this)
def CU_ {i:GI} {m:MS} {r n:List FV} (he:m.err=0) (h:(CD i m r n).err≠0):CD i m r n=JK m (CD i m r n).err:=by
 by_cases h1:i.op<=17
 .rw [Y9 h1]at h⊢;cases ht:EO i m.mem (n.headD FV.z) (n.getLastD FV.z)with
  |error e=>rfl
  |ok v=>rw [ht]at h;exact absurd he h
 .by_cases h2:i.op=19;rw [oB h2]at h⊢;split at h;rename_i h3;rw [Ad h3];rfl;exact absurd he h
  .unfold CD at h;rw [Ab h1,Ab h2]at h;repeat' (split at h)
   all_goals exact absurd he h
def sH {l:List GI} {p:Nat} (h:p<l.length):(XOp.iaddr 30).run Tryz.prog [m_ l,.int .i64 (p:Int)]=some (.vptr (Ay n_ (l.drop p))):=
 Bb (e:=68) (ti:=(Tryz.prog.info? 68).get!) Tryz.underlying30 (by kernel_rfl) (by kernel_rfl) JO h .i64
def rg {l:List GI} {p:Nat} (h:p<l.length):(XOp.load 68).run Tryz.prog [.vptr (Ay n_ (l.drop p))]=some (.agg (n_ l[p])):=
 Bv (ti:=(Tryz.prog.info? 68).get!) Tryz.underlying68 rfl (by kernel_rfl) (by kernel_rfl) JO h
def V8 {m:MS} {s:AV} (hs:St m.st s) {hv:List AV} {Y:Sy} {L:List (Nat->List AV->Prop)} (h:Am Y.v hv=KR m s):AB Tryz.prog (QF (il m)) L Y (.done (.tup (.int .i64 0::hv))):=
 Ai (j:=0) (by rw [h];exact Fe _ (St.okC hs)) ⟨s,hs,h⟩
def p41 {l:List GI} {T:List (List Int)} {m:MS} {s:AV} (hG:Au T 0 l) (hn: -9223372036854775808<=m.now/\m.now<=9223372036854775807) (hl:l.length<=400) (hu:0<=m.used/\m.used<=1000000) (hmt:Hq l T m) (hs:St m.st s):
  A6 41 YP (m_ l::KR m s) (il (e_ l m)):=by
 obtain ⟨p,i,K,h⟩:=hmt;obtain ⟨hp,hi⟩:=List.getElem?_eq_some_iff.1 h.at_;have hT:=hG p i K h.at_ (by rw [Nat.zero_add];exact h.ty);rw [Nat.zero_add]at hT;have hinst:=h.inst;have hmm:=h.mem;have hst:m.st.length<=40:=by obtain ⟨K0,ks,e,_,h40,_⟩:=hT;have:=congrArg List.length h.st;rw [List.length_map]at this;omega
 have hsm:St m.mem (b_ m.mem):=SlV.of m.mem;have hml:=hmm.len;have c1:=kR hs (by omega);have c2:=kR hsm (by omega);have stuck:Ew m->e_ l m=m:=λh=>Xx h;have hpc:=h.pc;have htv:=h.tv;have ks:=h.st;refine BU sm pm rfl rfl (by kernel_rfl) λY hf hg=>?_;unfold pm;refine AC (t:=m.over) rfl (λhov=>?_) (λhov=>?_);rw [stuck (.inl hov)];refine Bo c1 (by show Ak [s]=true;simp only [Ak,St.okC hs]) ⟨?_,trivial⟩;rintro ws ⟨s3,hs3,rfl⟩;refine Bo c2 (by show Ak [b_ m.mem]=true;simp only [Ak,x_]) ⟨?_,trivial⟩;rintro ws ⟨s4,hs4,rfl⟩;obtain rfl:=Wi hmm hs4;exact V8 hs3 rfl
 (refine i_ rfl rfl ?_ ?_<;>intro h<;>simp only [nc]at h<;>try omega)
 rw [stuck (.inr h)];refine Bo c1 (by show Ak [s]=true;simp only [Ak,St.okC hs]) ⟨?_,trivial⟩;rintro ws ⟨s3,hs3,rfl⟩;refine Bo c2 (by show Ak [b_ m.mem]=true;simp only [Ak,x_]) ⟨?_,trivial⟩;rintro ws ⟨s4,hs4,rfl⟩;obtain rfl:=Wi hmm hs4;exact V8 hs3 rfl;have he:m.err=0:=h;have hstep:e_ l m=CD i m (m.st.take (m.st.length-j_ i)) (m.st.drop (m.st.length-j_ i)):=by unfold e_;rw [Ab (λhh=>by rcases hh with hh|hh;exact (by rw [hov]at hh;cases hh);exact hh he),hinst]
 refine tM ?_;unfold TW;refine Bo c1 (by show Ak [s]=true;simp only [Ak,St.okC hs]) ⟨?_,trivial⟩;rintro ws ⟨s3,hs3,rfl⟩;refine Bo c2 (by show Ak [b_ m.mem]=true;simp only [Ak,x_]) ⟨?_,trivial⟩;rintro ws ⟨s4,hs4,rfl⟩;obtain rfl:=Wi hmm hs4;have hia:=sH hp;rw [←hpc]at hia;have hld:=rg hp;rw [hi]at hld;refine Aa (q_ (x:=m.used) (by omega) (by omega)) rfl (Aa hia (A5 Cx _) (B3 hld rfl (Cx i) ?_));have hc:=yx (m:=m) (i:=i) (T:=T) (p:=p) (m.used+1) hs3 he (by omega) hn (by rw [ks];exact hT) htv hmm;rw [hstep];have hus:=XD i m (m.st.take (m.st.length-j_ i)) (m.st.drop (m.st.length-j_ i));have hbd:=λh=>CU_ (i:=i) (r:=m.st.take (m.st.length-j_ i)) (n:=m.st.drop (m.st.length-j_ i)) he h;generalize CD i m (m.st.take (m.st.length-j_ i)) (m.st.drop (m.st.length-j_ i))=q at*;refine Bo hc (OB ⟨m.pc,m.st,m.mem,m.used+1,m.now,m.over,m.err⟩ (St.okC hs3) (Cx i)) ⟨?_,?_,trivial⟩;rintro ws (⟨hq,_,s5,hs5,rfl⟩|⟨_,h0,_⟩);obtain ⟨qpc,qst,qmem,qu,qn,qo,qe⟩:=q;obtain ⟨u1,u2⟩:=hus;simp only at u1 u2 hq hs5;subst u1 u2 hq;refine V8 hs5 ?_;show [_,_,_,_,_,_,AV.int .i64 m.err]=_;rw [he];rfl;cases h0;rintro ws (⟨_,h0,_⟩|⟨hq,_,rfl⟩);cases h0;refine Bo c1 (by show Ak [s]=true;simp only [Ak,St.okC hs]) ⟨?_,trivial⟩;rintro ws ⟨s6,hs6,rfl⟩;refine Bo c2 (by show Ak [b_ m.mem]=true;simp only [Ak,x_]) ⟨?_,trivial⟩;rintro ws ⟨s7,hs7,rfl⟩;obtain rfl:=Wi hmm hs7;have hb:=hbd hq;refine Aa (q_ (x:=m.used) (by omega) (by omega)) rfl ?_;have hs8:St q.st s6:=(by rw [hb];exact hs6);refine V8 hs8 ?_;rw [hb];rfl
def JH (l:List GI) (i:GI) (hl:l.length<=1000000):(XOp.app 7 56).run Tryz.prog [m_ l,.agg (n_ i)]=some (m_ (l++[i])):=SZ JO (by decide) (by decide) l i (by omega)
def KB (l:List GI):(XOp.len 30).run Tryz.prog [m_ l]=some (.int .i64 (l.length:Int)):=Uo Tryz.underlying30 l
def ZB (l:List GI):Nat->List AV->Prop:=λ_ ws=>ws=[m_ l]
def ME (l:List GI):Ak [m_ l]=true:=by simp only [Ak,okI]
def Cl_ (l:List GI) {i:Nat} (hi:i<l.length) (a:Int) (k:IntKind):(XOp.stx 3 7 2).run Tryz.prog [m_ l,.int k (i:Int),.int .i64 a]=some (m_ (l.set i { l[i]with ad:=a })):=
 EL (ti:=(Tryz.prog.info? 3).get!) JO hi (p:=[.int .i64 l[i].op,.int .i64 l[i].kd]) (q:=[.int .i64 l[i].ad]) (r:=[.int .i64 l[i].n,.int .i64 l[i].vk,.int .i64 l[i].vi,.flt .f64 l[i].vf]) (xs:=[.int .i64 a]) rfl (.inr ⟨_,_,rfl⟩) (by kernel_rfl) (by kernel_rfl) rfl rfl rfl rfl rfl k
theorem Do_ {α:Type} (a:List α) (x y:α) (b:List α):(a++([x]++b)).set a.length y=a++([y]++b):=by rw [List.set_append_right _ _ (Nat.le_refl _),Nat.sub_self];rfl
theorem xi {α:Type} (a:List α) (x:α) (b:List α) (h:a.length<(a++([x]++b)).length):(a++([x]++b))[a.length]=x:=by rw [List.getElem_append_right (Nat.le_refl _)];simp
def S8 (a:List GI) (op:Int) (b:List GI) (t:Int):(XOp.stx 3 7 2).run Tryz.prog [m_ (a++([l_ op 0 0 0]++b)),.int .i64 (a.length:Int),.int .i64 t]=some (m_ (a++([l_ op 0 t 0]++b))):=by
 have h:a.length<(a++([l_ op 0 0 0]++b)).length:=by simp
 rw [Cl_ _ h t .i64,xi,Do_];rfl
def UV {Y:Sy} {i j:Nat} {l l':List GI} (h1:Y.v i=some (m_ l)) (h2:Y.v j=some (m_ l')) (h:l.length=l'.length):(DF.same i j).ok Y:=by
 cases l with
 |nil=>
  cases l' with
  |nil=>exact .inl ⟨h1,h2⟩
  |cons a r=>simp at h
 |cons a r=>
  cases l' with
  |nil=>simp at h
  |cons b q=>have e:r.length=q.length:=(by simpa using h);exact .inr ⟨r.length+1,7,_,_,h1,by rw [h2];show some (AV.vsl (q.length+1) 7 _)=_;rw [e]⟩
def xO (l:List GI) (x:GS):Ak (m_ l::CY x)=true:=by rw [CL,okI];exact Hr x
def nh (l:List GI) (x:List GS):Ak [m_ l,Y_ x]=true:=by rw [CL,okI];simp only [Ak,EE];rfl
theorem X8:∀(b:Nat) (x y:List GS),h_ b (x++y)=h_ b x++h_ (b+(h_ b x).length) y
 |b,[],y=>by simp [h_]
 |b,s::x,y=>by simp only [Bl,h_,X8 _ x y,Be,Ax,Nat.add_assoc]
def yM (b:Nat) (x:List GS) {i:Nat} (hi:i<x.length):h_ b (x.take (i+1))=h_ b (x.take i)++w_ (b+(h_ b (x.take i)).length) x[i]:=by rw [List.take_succ_eq_append_getElem hi,X8];simp only [h_,Ch]
def rE (b:Nat) (x:List GS) (i:Nat):(h_ b (x.take i)).length<=(h_ b x).length:=by have:=congrArg List.length (X8 b (x.take i) (x.drop i));rw [List.take_append_drop,List.length_append]at this;omega
def c99:VC:=⟨⟨[],[]⟩,[(99,[none])],[(1,[⟨[(4,.slx 0 0 0),(1,.ptr 0 0),(3,.slx 1 7 1)],[(0,[64,65,66,67,68,69,70,71,72,73])],2,2,[⟨1,7,1,3,none⟩],[],[]⟩])],0,true,[]⟩
def lc:VT:=Iq 64 1 74 (.done (.vsl 1 7 [J 1,70,J 0,J 0,70,71,72]))<|Iq 64 2 75 (.done (.vsl 1 7 [J 2,J 0,68,J 0,J 0,J 0,.flt .f64 0]))<|.loop 76 0 [J 0,.nsl] (.cons 2 (Li Qh [73] 78<|It Q5 [76,78] 79 (Li Qg [73,76] 80<|.lt Qm [80] 81 (some 10)<|.call 99 [.agg (Af 81 10)] 91 [none]<|Li Qs [77,91] 92<|Li Q3 [76,J 1] 93<|.again 0 0 [93,92])<|Iq 64 3 80 (Li Qs [77,.agg [J 3,J 0,68,69,J 0,J 0,.flt .f64 0]] 81<|.done (81))<|Iq 64 17 81 (Li Qg [73,J 0] 82<|Li Ze [82] 83<|Li Qn [83] 84<|Li Qs [77,.agg [J 17,65,J 0,84,J 0,J 0,.flt .f64 0]] 85<|.done (85))<|Li Qg [73,J 0] 82<|Li Ze [82] 83<|Li Qn [83] 84<|Li Qs [77,.agg [64,84,J 0,J 0,J 0,J 0,.flt .f64 0]] 85<|.done (85)) .nil)
def rJ:VC:=⟨⟨[],[]⟩,[(99,[none])],[(1,[⟨[(6,.slx 0 0 0),(3,.ptr 1 0),(0,.slx 2 7 1)],[(1,[65,66,67,68,69,70,71,72,73,74,75,76,77,78,79,80,81,82,83,84,85,86,87,88,89,90,91])],3,2,[⟨2,7,1,0,none⟩],[],[]⟩])],0,true,[(25,FY)]⟩
def ee:VT:=Li Qi [64] 92<|Iq 65 1 93 (.call 99 [.agg (Af 76 10)] 94 [none]<|Li Qs [64,94] 95<|Iq 66 3 96 (Li Qg [75,J 0] 97<|.lt Qm [97] 98 (some 10)<|.call 99 [.agg (Af 98 10)] 108 [none]<|.chk (.pos 108)<|Li Qs [95,108] 109<|Li Qs [109,.vsl 1 7 [J 19,J 0,70,71,J 0,J 0,.flt .f64 0]] 110<|Dn [110])<|Li Qs [95,.agg [J 18,J 0,70,J 0,J 0,J 0,.flt .f64 0]] 97<|Dn [97])<|Iq 65 4 94 (.loop 95 0 [J 0,64] (.cons 2 (Li Qh [91] 97<|It Q5 [95,97] 98 (Li Qg [91,95] 99<|.lt Qm [99] 100 (some 10)<|.call 99 [.agg (Af 100 10)] 110 [none]<|Li Qs [96,110] 111<|Li Q3 [95,J 1] 112<|.again 0 0 [112,111])<|Li Qh [91] 99<|Li Qs [96,.agg [J 22,89,90,99,J 0,J 0,.flt .f64 0]] 100<|Dn [100]) .nil))<|.call 99 [.agg (Af 76 10)] 95 [none]<|Li Qs [64,95] 96<|Li Qi [96] 97<|Li Qs [96,.agg [J 21,J 0,J 0,J 0,J 0,J 0,.flt .f64 0]] 98<|Cf 25 FY [98,86] 99 1<|Iq 65 3 102 (Li Qs [101,.agg [J 20,J 0,92,J 0,J 0,J 0,.flt .f64 0]] 103<|Li Qi [103] 104<|Li Q2 [103,97] 105<|Li U3 [103,105,104] 106<|.chk (.same 103 106)<|Dn [106])<|Li Zs [87] 103<|Iq 103 0 104 (Li Qi [101] 105<|Li Q2 [101,97] 106<|Li U3 [101,106,105] 107<|.chk (.same 101 107)<|Dn [107])<|Li Qi [101] 105<|Li Qs [101,.agg [J 20,J 0,J 0,J 0,J 0,J 0,.flt .f64 0]] 106<|Li Qi [106] 107<|Li Q2 [106,97] 108<|Li U3 [106,108,107] 109<|.chk (.same 106 109)<|Cf 25 FY [109,87] 110 1<|Li Qi [112] 113<|Li Q2 [112,105] 114<|Li U3 [112,114,113] 115<|.chk (.same 112 115)<|Dn [115]
def qg:VC:=⟨⟨[],[]⟩,[],[(0,[⟨[(5,.slx 0 0 0),(1,65),(0,.slx 0 7 1)],[],1,2,[⟨0,7,1,0,none⟩],[],[]⟩])],0,true,[(56,Mo)]⟩
def n7:VT:=.loop 66 0 [J 0,64] (.cons 2 (Li Zs [65] 68<|It Q5 [66,68] 69 (Li U4 [65,66] 70<|.lt U5 [70] 71 (some 27)<|Cf 56 Mo ([67]++Af 71 27) 98 1<|Li Q3 [66,J 1] 127<|.again 0 0 [127,126])<|Dn [67]) .nil)
def c9:VC:=⟨⟨[],[]⟩,[],[],0,true,[(25,FY)]⟩
def t9:VT:=Cf 25 FY [.nsl,65] 66 1<|Li Qs [68,.agg [J 23,J 0,J 0,J 0,J 0,J 0,.flt .f64 0]] 69<|Li Qi [69] 70<|It Qb [70,J 400] 71 (.done (.tup [.nsl,J 12]))<|.done (.tup [69,J 0])
def qw (l:List GI) (i:GI) (hl:l.length<=1000000):(XOp.app 7 56).run Tryz.prog [m_ l,.vsl 1 7 (n_ i)]=some (m_ (l++[i])):=dE (enc:=n_) JO (by decide) (by decide) l [i] (by simp only [List.length_cons,AH];omega)
def QN (l q:List GI) (hl:l.length+q.length<=1000000):(XOp.app 7 56).run Tryz.prog [m_ l,m_ q]=some (m_ (l++q)):=dE JO (by decide) (by decide) l q (by omega)
def X6:∀(d:Nat) (x:GX),d<=10->TX d x->AQ 99 [.agg (v_ x)] (m_ (c_ x))
 |0,_,_,h=>h.elim
 |d+1,.mk op kd nm fd ad n vk vi vf ag,hd,hx=>by
  have hge:=UA hx;have hp:2^(d+1)<=2^10:=Nat.pow_le_pow_right (by decide) hd;have hgl:(c_ (.mk op kd nm fd ad n vk vi vf ag)).length=(g_ ag).length+1:=(by simp only [c_,Ax,List.length_cons,AH]);obtain ⟨h1,_,_,_,_,h6⟩:=hx;have hal:ag.length<=2:=(by unfold Cz at h1;omega);have hE:∀i,(g_ (ag.take i)).length<=(g_ ag).length:=λi=>(by have:=congrArg List.length (RW (ag.take i) (ag.drop i));rw [List.take_append_drop,List.length_append]at this;omega);refine BV [some 10] (v_ (.mk op kd nm fd ad n vk vi vf ag)) c99 lc rfl (BT _) (Mc (okI _)) rfl rfl (by kernel_rfl) λY hf hg=>?_;unfold lc
  (refine i_ rfl rfl ?_ ?_<;>intro h<;>simp only [nc]at h<;>try omega)
  .obtain rfl:ag=[]:=by
     cases ag with
     |nil=>rfl
     |cons a r=>unfold Cz at h1;simp only [List.length_cons]at h1;omega
   subst h;exact As rfl
  (refine i_ rfl rfl ?_ ?_<;>intro h<;>simp only [nc]at h<;>try omega)
  .obtain rfl:ag=[]:=by
     cases ag with
     |nil=>rfl
     |cons a r=>unfold Cz at h1;simp only [List.length_cons]at h1;omega
   subst h;exact As rfl
  refine D3 (ι:=Nat) (λi=>[.int .i64 (i:Int),m_ (g_ (ag.take i))]) (λi=>i<=ag.length) (λi=>ag.length-i) 0 (zb' _) (by simp [g_];rfl) (λi _=>by simp only [Ak,okC,okI]) (λi j _ _ h=>by simp at h;omega) (λi hi=>?_);refine Aa (I_ ag) rfl ?_
  (refine i_ rfl rfl ?_ ?_<;>intro h<;>simp only [nc]at h<;>try omega)
  have hi:i<ag.length:=(by omega);have hld:=Jf ag hi;have hg:g_ (ag.take (i+1))=g_ (ag.take i)++c_ ag[i]:=(by rw [List.take_succ_eq_append_getElem hi,RW];simp only [g_,Ch]);have hz:=X6 d ag[i] (by omega) (h6 _ (zd' hi));have hl:(g_ (ag.take i)).length+(c_ ag[i]).length<=1000000:=(by have:=hE (i+1);rw [hg,List.length_append]at this;omega);rcases hzz:ag[i]with ⟨zo,zk,znm,zfd,zad,zn,zvk,zvi,zvf,za⟩;rw [hzz]at hld hz hg hl;refine Aa (O_ ag hi) (A5 BT _) (B3 hld rfl (BT _) (Ar hz rfl (by simp only [Ak,okI]) (Aa (QN _ _ hl) (okI _) ?_)));exact Aa (q_ (by omega) (by omega)) rfl (CX rfl ⟨i+1,hi,by rw [hg];rfl,by omega⟩);have hi:i=ag.length:=(by omega);subst hi;rw [List.take_length];have hlen:(g_ ag).length<=1000000:=(by omega);have fin:∀i:GI,F_ op kd ad n vk vi vf ag=i->m_ (g_ ag++[i])=m_ (c_ (.mk op kd nm fd ad n vk vi vf ag)):=λi hi=>by simp only [c_,hi]
  (refine i_ rfl rfl ?_ ?_<;>intro h<;>simp only [nc]at h<;>try omega)
  exact Aa (JH _ (l_ 3 0 ad n) hlen) (okI _) (As (fin _ (by unfold F_;rw [Ab (by omega),Ab (by omega),Ad h])));have h0:1<=ag.length:=(by unfold Cz at h1;omega);obtain ⟨y,r,rfl⟩:∃y r,ag=y::r:=by
   cases ag with
   |nil=>simp at h0
   |cons y r=>exact ⟨y,r,rfl⟩
  obtain ⟨y1,y2,y3,y4,y5,y6,y7,y8,y9,y10⟩:=y
  (refine i_ rfl rfl ?_ ?_<;>intro h<;>simp only [nc]at h<;>try omega)
  refine Aa (r:=.vptr (v_ (.mk y1 y2 y3 y4 y5 y6 y7 y8 y9 y10)++G2 r)) rfl (by show Ak _=true;exact A5.okL_join (BT _) (K5 _)) ?_;refine Aa (r:=.vptr ([.int .i64 y2,.str y3,.str y4,.int .i64 y5,.int .i64 y6,.int .i64 y7,.int .i64 y8,.flt .f64 y9,Db y10]++G2 r)) rfl (by show Ak _=true;exact A5.okL_join (by simp only [okC,Ak,D4]) (K5 _)) (Aa (r:=.int .i64 y2) rfl rfl ?_);exact Aa (JH _ (l_ 17 kd 0 y2) hlen) (okI _) (As (fin _ (by unfold F_;rw [Ab (by omega),Ab (by omega),Ab (by omega),Ad (by assumption)];rfl)));refine Aa (r:=.vptr (v_ (.mk y1 y2 y3 y4 y5 y6 y7 y8 y9 y10)++G2 r)) rfl (by show Ak _=true;exact A5.okL_join (BT _) (K5 _)) ?_;refine Aa (r:=.vptr ([.int .i64 y2,.str y3,.str y4,.int .i64 y5,.int .i64 y6,.int .i64 y7,.int .i64 y8,.flt .f64 y9,Db y10]++G2 r)) rfl (by show Ak _=true;exact A5.okL_join (by simp only [okC,Ak,D4]) (K5 _)) (Aa (r:=.int .i64 y2) rfl rfl ?_);exact Aa (JH _ (l_ op y2 0 0) hlen) (okI _) (As (fin _ (by unfold F_;rw [Ab (by omega),Ab (by omega),Ab (by omega),Ab (by assumption)];rfl)))
def XI {x:GX} (h:TX 5 x):AQ 99 [.agg (v_ x)] (m_ (c_ x)):=X6 5 x (by decide) h
def yO {Y:Sy} {i:Nat} {l:List GI} (h:Y.v i=some (m_ l)) (hl:0<l.length):(DF.pos i).ok Y:=by
 cases l with
 |nil=>simp at hl
 |cons a r=>exact ⟨_,_,_,h⟩
def zi (x:GX):0<(c_ x).length:=by cases x;simp [c_]
def Ss (d:Nat):Prop:=∀(x:List GS) (l:List GI),x.length<=5->(∀s∈x,TS d s)->l.length+(h_ l.length x).length<=900000->A6 25 FY [m_ l,Y_ x] (ZB (l++h_ l.length x))
def p56 (d:Nat) (hT:∀e,d=e+1->Ss e):∀(s:GS) (l:List GI),TS d s->l.length+(w_ l.length s).length<=900000->A6 56 Mo (m_ l::CY s) (ZB (l++w_ l.length s)):=by
 intro s l hs hl;rcases d with _|d;exact hs.elim;have hT:=hT d rfl;obtain ⟨op,to,e,thn,els,nm,kd,ad,ag⟩:=s;obtain ⟨gl,hgl⟩:∃gl,gl=w_ l.length (.mk op to e thn els nm kd ad ag):=⟨_,rfl⟩;rw [←hgl]at hl⊢;obtain ⟨c,hc⟩:∃c,c=c_ e:=⟨_,rfl⟩;obtain ⟨to1,to2,to3,to4,to5,to6,to7,to8,to9,to10⟩:=to;obtain ⟨e1,e2,e3,e4,e5,e6,e7,e8,e9,e10⟩:=e;refine BU rJ ee rfl rfl (by kernel_rfl) λY hf hg=>?_;unfold ee;refine Aa (KB _) rfl ?_;rcases hs with ⟨rfl,a1,a2,a3,a4,_⟩|⟨ho,b1,b2,b3,b4,b5,b6⟩|⟨rfl,c1,c2,_⟩
 .have hk:=X6 6 _ (by decide) a3;rw [←hc]at hk;have hgen:gl=c++Ey (.mk to1 to2 to3 to4 to5 to6 to7 to8 to9 to10):=(by rw [hgl,hc];simp [w_]);subst hgen;clear hgl;simp only [GX.op]at a2;simp only [Ey]at hl⊢;rw [List.length_append]at hl
  (refine i_ rfl rfl ?_ ?_<;>intro h<;>simp only [nc]at h<;>try omega)
  refine Ar hk rfl (by simp only [Ak,okI]) (Aa (QN _ _ (by omega)) (okI _) ?_)
  (refine i_ rfl rfl ?_ ?_<;>intro h<;>simp only [nc]at h<;>try omega)
  .rw [Ad h]at hl⊢;have hw:=a1.1;obtain ⟨y,rfl⟩:∃y,to10=[y]:=by
    cases to10 with
    |nil=>unfold Cz at hw;simp only [AH]at hw;omega
    |cons y r=>
     cases r with
     |nil=>exact ⟨y,rfl⟩
     |cons z r=>unfold Cz at hw;simp only [List.length_cons]at hw;omega
   have hy:=XI (bO (by decide) (a1.2.2.2.2.2 y (za' ..)));have hpos:=zi y;simp only [g_,Ch,Ax,List.length_cons,AH]at hl⊢;have hld:=Jf [y] (i:=0) (by simp);obtain ⟨gy,hgy⟩:∃gy,gy=c_ y:=⟨_,rfl⟩;rw [←hgy]at hl hy hpos⊢;obtain ⟨y1,y2,y3,y4,y5,y6,y7,y8,y9,y10⟩:=y;refine Aa (O_ [_] (i:=0) (by simp)) (A5 BT _) (B3 hld rfl (BT _) (Ar hy rfl (by simp only [Ak,okI]) (Cg (yO rfl hpos) ?_)));refine Aa (QN _ _ (by simp only [Ax];omega)) (okI _) (Aa (qw _ (l_ 19 0 to5 to6) (by simp only [Ax];omega)) (okI _) (Ai (ME _) ?_));exact congrArg (λz=>[m_ z]) (by simp only [Be])
  rw [Ab h]at hl⊢;simp only [List.length_cons,AH]at hl;refine Aa (JH _ (l_ 18 0 to5 0) (by simp only [Ax];omega)) (okI _) (Ai (ME _) ?_);exact congrArg (λz=>[m_ z]) (ze' ..)
 .have hk:=XI b1;rw [←hc]at hk;obtain ⟨t,ht⟩:∃t,t=h_ (l.length+c.length+1) thn:=⟨_,rfl⟩;obtain ⟨q,hq⟩:∃q,q=h_ (l.length+c.length+1+t.length+1) els:=⟨_,rfl⟩;have hlc:l.length+c.length+1+t.length<=900000:=by
   rcases ho with rfl|rfl
   .have hgen:gl=if els=[]then c++[l_ 21 0 ((l.length+c.length+1+t.length:Nat):Int) 0]++t else c++[l_ 21 0 ((l.length+c.length+1+t.length+1:Nat):Int) 0]++t++[l_ 20 0 ((l.length+c.length+1+t.length+1+q.length:Nat):Int) 0]++q:=by rw [hgl,hq,ht,hc];simp [w_]
    rw [hgen]at hl;split at hl<;>simp only [Ax,List.length_cons,AH]at hl<;>omega
   have hgen:gl=c++[l_ 21 0 ((l.length+c.length+1+t.length+1:Nat):Int) 0]++t++[l_ 20 0 (l.length:Int) 0]:=(by rw [hgl,ht,hc];simp [w_]);rw [hgen]at hl;simp only [Ax,List.length_cons,AH]at hl;omega
  have k3:=hT thn (l++c++[l_ 21 0 0 0]) b3 b5 (by simp only [Ax,List.length_cons,AH,Cw];rw [←ht];omega);have e0:(l++c++[l_ 21 0 0 0]).length=l.length+c.length+1:=(by simp only [Ax,List.length_cons,AH]);rw [e0,←ht,Be (l++c)]at k3;have hlc1:(l++c).length=l.length+c.length:=Ax
  (refine i_ rfl rfl ?_ ?_<;>intro h<;>simp only [nc]at h<;>try omega)
  (refine i_ rfl rfl ?_ ?_<;>intro h<;>simp only [nc]at h<;>try omega)
  refine Ar hk rfl (by simp only [Ak,okI]) (Aa (QN _ _ (by omega)) (okI _) (Aa (KB _) rfl (Aa (JH _ (l_ 21 0 0 0) (by omega)) (okI _) ?_)));refine a_ k3 rfl (nh _ _) ⟨?_,trivial⟩;rintro ws rfl
  (refine i_ rfl rfl ?_ ?_<;>intro h<;>simp only [nc]at h<;>try omega)
  have h3:op=3:=h;subst h3;have hgen:gl=c++[l_ 21 0 ((l.length+c.length+1+t.length+1:Nat):Int) 0]++t++[l_ 20 0 (l.length:Int) 0]:=(by rw [hgl,ht,hc];simp [w_]);subst hgen;have e2:l++c++([l_ 21 0 0 0]++t)++[l_ 20 0 (l.length:Int) 0]=l++c++([l_ 21 0 0 0]++(t++[l_ 20 0 (l.length:Int) 0])):=(by simp only [Be]);have ka:=JH (l++c++([l_ 21 0 0 0]++t)) (l_ 20 0 (l.length:Int) 0) (by simp only [Ax,List.length_cons,AH];omega);rw [e2]at ka;refine Aa ka (okI _) (Aa (KB _) rfl (Aa (NP (i:=(l++c).length) (by simp) .i64) rfl (Aa (S8 (l++c) 21 (t++[l_ 20 0 (l.length:Int) 0]) _) (okI _) (Cg (UV rfl rfl (by simp)) (Ai (ME _) ?_)))));refine congrArg (λz=>[m_ z]) ?_;simp only [Be,Ax,List.length_cons,AH];have x1:l.length+(c.length+(0+1+(t.length+(0+1))))=l.length+c.length+1+t.length+1:=(by omega);rw [x1];have h2:op=2:=(by omega);subst h2;have hgen:gl=if els=[]then c++[l_ 21 0 ((l.length+c.length+1+t.length:Nat):Int) 0]++t else c++[l_ 21 0 ((l.length+c.length+1+t.length+1:Nat):Int) 0]++t++[l_ 20 0 ((l.length+c.length+1+t.length+1+q.length:Nat):Int) 0]++q:=by rw [hgl,hq,ht,hc];simp [w_]
  subst hgen;refine Aa (UJ els) rfl ?_
  (refine i_ rfl rfl ?_ ?_<;>intro h<;>simp only [nc]at h<;>try omega)
  .have hne:els=[]:=by
     cases els with
     |nil=>rfl
     |cons a r=>simp at h;omega
   rw [Ad hne];refine Aa (KB _) rfl (Aa (NP (i:=(l++c).length) (by simp) .i64) rfl (Aa (S8 (l++c) 21 t _) (okI _) (Cg (UV rfl rfl (by simp)) (Ai (ME _) ?_))));refine congrArg (λz=>[m_ z]) ?_;simp only [Be,Ax,List.length_cons,AH];have x1:l.length+(c.length+(0+1+t.length))=l.length+c.length+1+t.length:=(by omega);rw [x1]
  have hne:els≠[]:=λe=>(by subst e;simp at h);rw [Ab hne]at hl⊢;simp only [Ax,List.length_cons,AH]at hl;have e2:l++c++([l_ 21 0 0 0]++t)++[l_ 20 0 0 0]=l++c++([l_ 21 0 0 0]++(t++[l_ 20 0 0 0])):=(by simp only [Be]);have ka:=JH (l++c++([l_ 21 0 0 0]++t)) (l_ 20 0 0 0) (by simp only [Ax,List.length_cons,AH];omega);rw [e2]at ka;refine Aa (KB _) rfl (Aa ka (okI _) ?_);refine Aa (KB _) rfl (Aa (NP (i:=(l++c).length) (by simp) .i64) rfl (Aa (S8 (l++c) 21 (t++[l_ 20 0 0 0]) _) (okI _) (Cg (UV rfl rfl (by simp)) ?_)));have e5':(l++c++([l_ 21 0 0 0]++(t++[l_ 20 0 0 0]))).length=l.length+c.length+1+t.length+1:=(by simp only [Ax,List.length_cons,AH];omega);have k5:=hT els (l++c++([l_ 21 0 ((l++c++([l_ 21 0 0 0]++(t++[l_ 20 0 0 0]))).length:Int) 0]++(t++[l_ 20 0 0 0]))) b4 b6 (by simp only [Ax,List.length_cons,AH];rw [show l.length+c.length+(0+1+(t.length+(0+1)))=l.length+c.length+1+t.length+1 by omega,←hq];omega);have e6':(l++c++([l_ 21 0 ((l++c++([l_ 21 0 0 0]++(t++[l_ 20 0 0 0]))).length:Int) 0]++(t++[l_ 20 0 0 0]))).length=l.length+c.length+1+t.length+1:=(by simp only [Ax,List.length_cons,AH];omega);rw [e6',←hq]at k5;have e7':l++c++([l_ 21 0 ((l++c++([l_ 21 0 0 0]++(t++[l_ 20 0 0 0]))).length:Int) 0]++(t++[l_ 20 0 0 0]))++q=(l++c++([l_ 21 0 ((l++c++([l_ 21 0 0 0]++(t++[l_ 20 0 0 0]))).length:Int) 0]++t))++([l_ 20 0 0 0]++q):=(by simp only [Be]);rw [e7']at k5;refine a_ k5 rfl (nh _ _) ⟨?_,trivial⟩;rintro ws rfl;have e8':(((l++c++([l_ 21 0 0 0]++t)).length:Nat):Int)=(((l++c++([l_ 21 0 ((l++c++([l_ 21 0 0 0]++(t++[l_ 20 0 0 0]))).length:Int) 0]++t)).length:Nat):Int):=(by simp only [Ax,List.length_cons,AH]);refine Aa (KB _) rfl (Aa (r:=.int .i64 (((l++c++([l_ 21 0 ((l++c++([l_ 21 0 0 0]++(t++[l_ 20 0 0 0]))).length:Int) 0]++t)).length:Nat):Int)) (by rw [←e8'];exact NP (i:=(l++c++([l_ 21 0 0 0]++t)).length) (by simp) .i64) rfl (Aa (S8 _ 20 q _) (okI _) (Cg (UV rfl rfl (by simp)) (Ai (ME _) ?_))));refine congrArg (λz=>[m_ z]) ?_;rw [e5'];simp only [Be,Ax,List.length_cons,AH];have x1:l.length+(c.length+(0+1+(t.length+(0+1+q.length))))=l.length+c.length+1+t.length+1+q.length:=(by omega);rw [x1]
 .have hgen:gl=g_ ag++[l_ 22 kd ad (ag.length:Int)]:=(by rw [hgl];simp [w_]);subst hgen;clear hgl;simp only [Ax,List.length_cons,AH]at hl;have hal:ag.length<=2:=(by rcases c1 with ⟨_,_,c1⟩|⟨_,_,c1⟩|⟨_,_,c1⟩<;>(have:=congrArg List.length c1;simp at this;omega));have hE:∀i,(g_ (ag.take i)).length<=(g_ ag).length:=λi=>by have:=congrArg List.length (RW (ag.take i) (ag.drop i));rw [List.take_append_drop,List.length_append]at this;omega
  (refine i_ rfl rfl ?_ ?_<;>intro h<;>simp only [nc]at h<;>try omega)
  (refine i_ rfl rfl ?_ ?_<;>intro h<;>simp only [nc]at h<;>try omega)
  refine D3 (ι:=Nat) (λi=>[.int .i64 (i:Int),m_ (l++g_ (ag.take i))]) (λi=>i<=ag.length) (λi=>ag.length-i) 0 (zb' _) (by simp [g_];rfl) (λi _=>by simp only [Ak,okC,okI]) (λi j _ _ h=>by simp at h;omega) (λi hi=>?_);refine Aa (I_ ag) rfl ?_
  (refine i_ rfl rfl ?_ ?_<;>intro h<;>simp only [nc]at h<;>try omega)
  have hi:i<ag.length:=(by omega);have hld:=Jf ag hi;have hg:g_ (ag.take (i+1))=g_ (ag.take i)++c_ ag[i]:=(by rw [List.take_succ_eq_append_getElem hi,RW];simp only [g_,Ch]);have hz:=XI (c2 _ (zd' hi));have hl2:(l++g_ (ag.take i)).length+(c_ ag[i]).length<=1000000:=(by have:=hE (i+1);rw [hg,List.length_append]at this;rw [List.length_append];omega);rcases hzz:ag[i]with ⟨zo,zk,znm,zfd,zad,zn,zvk,zvi,zvf,za⟩;rw [hzz]at hld hz hg hl2;refine Aa (O_ ag hi) (A5 BT _) (B3 hld rfl (BT _) (Ar hz rfl (by simp only [Ak,okI]) (Aa (QN _ _ hl2) (okI _) ?_)));refine Aa (q_ (by omega) (by omega)) rfl (CX rfl ⟨i+1,hi,?_,by omega⟩);rw [hg,←List.append_assoc];rfl;have hi:i=ag.length:=(by omega);subst hi;rw [List.take_length];refine Aa (I_ ag) rfl (Aa (JH _ (l_ 22 kd ad (ag.length:Int)) (by rw [List.length_append];omega)) (okI _) (Ai (ME _) ?_));exact congrArg (λz=>[m_ z]) (ze' ..)
def nZ (d:Nat) (hT:∀e,d=e+1->Ss e):Ss d:=by
 intro x l hx5 hx hl;refine BU qg n7 rfl rfl (by kernel_rfl) λY hf hg=>?_;unfold n7;refine D3 (ι:=Nat) (λi=>[.int .i64 (i:Int),m_ (l++h_ l.length (x.take i))]) (λi=>i<=x.length) (λi=>x.length-i) 0 (zb' _) (by simp [h_];rfl) (λi _=>by simp only [Ak,okC,okI]) (λi j _ _ h=>by simp at h;omega) (λi hi=>?_);refine Aa (UJ x) rfl ?_
 (refine i_ rfl rfl ?_ ?_<;>intro h<;>simp only [nc]at h<;>try omega)
 have hi:i<x.length:=(by omega);have hg:=yM l.length x hi;have hle:=rE l.length x (i+1);have hz:=p56 d hT x[i] (l++h_ l.length (x.take i)) (hx _ (zd' hi)) (by rw [hg,List.length_append]at hle;rw [List.length_append];omega);have hld:=YY x hi;rw [List.length_append]at hz;rcases hzz:x[i]with ⟨z1,⟨a1,a2,a3,a4,a5,a6,a7,a8,a9,a10⟩,⟨b1,b2,b3,b4,b5,b6,b7,b8,b9,b10⟩,z4,z5,z6,z7,z8,z9⟩;rw [hzz]at hld hz hg;refine Aa (bW x hi) (A5 Hr _) (B3 hld rfl (Hr _) ?_);refine a_ hz rfl (xO _ _) ⟨?_,trivial⟩;rintro ws rfl;refine Aa (q_ (by omega) (by omega)) rfl (CX rfl ⟨i+1,hi,?_,by omega⟩);rw [hg,←List.append_assoc];rfl;have hi:i=x.length:=(by omega);subst hi;rw [List.take_length];exact Ai (ME _) rfl
def gc:∀d,Ss d
 |0=>nZ 0 λe h=>by omega
 |d+1=>nZ (d+1) λe h=>by have:d=e:=(by omega);subst this;exact gc d
def p9 {d:Nat} {v:AV} (hv:okC v=true) {x:List GS} (h5:x.length<=5) (hx:∀s∈x,TS d s) (hl:(h_ 0 x).length<=900000):AQ 9 [.agg [v,Y_ x]] (Py x):=by
 have h:A6 25 FY [.nsl,Y_ x] (ZB (h_ 0 x)):=gc d x [] h5 hx (by simpa using hl);refine BV [some 2] [v,Y_ x] c9 t9 rfl (by simp only [Ak,hv,EE]) (yw x) rfl rfl (by kernel_rfl) λY hf hg=>?_;unfold t9;refine a_ h rfl (by simp only [Ak,okC,EE]) ⟨?_,trivial⟩;rintro ws rfl;refine Aa (JH _ (l_ 23 0 0 0) (by omega)) (okI _) (Aa (KB _) rfl ?_);have hg:h_ 0 x++[l_ 23 0 0 0]=r_ x:=rfl;rw [hg]
 (refine i_ rfl rfl ?_ ?_<;>intro h<;>simp only [nc]at h<;>try omega)
 refine As ?_;unfold Py pl pe;rw [Ab (by omega),Ab (by omega)];rfl;refine As ?_;unfold Py pl pe;rw [Ad (by omega),Ad (by omega)];rfl
def kg {α:Type} {enc:α->List AV} {p:List AV->Prop} {q:α->Prop} (h:∀r,p r->∃a,r=enc a/\q a):∀rows:List (List AV),(∀r,r∈rows->p r)->∃l:List α,rows.flatten=Ay enc l/\l.length=rows.length/\∀a,a∈l->q a
 |[],_=>⟨[],rfl,rfl,λa h=>by cases h⟩
 |r::rows,hr=>by obtain ⟨a,rfl,ha⟩:=h r (hr r (za' ..));obtain ⟨l,h1,h2,h3⟩:=kg h rows λr h=>hr r (zc' _ h);refine ⟨a::l,by rw [List.flatten_cons,h1];rfl,by simp [h2],λb hb=>?_⟩;rcases List.mem_cons.1 hb with rfl|hb;exact ha;exact h3 b hb
def rU {r:List AV} (h:Sx.Fit Tryz.prog 5 r):∃c:UInt8,r=F5 c/\True:=by
 obtain ⟨n,rfl,hn⟩:=tF_ Tryz.underlying5 h;have hn:0<=n/\n<=255:=by simpa [Lit.wf,IntKind.min,IntKind.max,IntKind.bits,IntKind.signed]using hn
 refine ⟨n.toNat.toUInt8,?_,trivial⟩;have:((n.toNat.toUInt8).toNat:Int)=n:=by have h1:n.toNat.toUInt8.toNat=n.toNat:=(by simp only [Nat.toUInt8,UInt8.toNat_ofNat'];omega);rw [h1];omega
 unfold F5;rw [this]
def arg_u8s {H:Type} {enc:TypeId×Value->H} {W:World} {base:Nat} {v:Value} {dd:DataW H} {p ps:List MemPlace} (hok:Value.okWide Tryz.prog W .any base 22 v)
  (h:DataW.Trod enc Tryz.prog W 0 (λ_=>true) true 22 v dd p) (hps:∀q,q∈p->q∈ps):∃(l:List UInt8) (a:AV),SlV F5 1 l a/\True/\l.length<=maxLen/\Ac (Jq (Hs W ps)) a v:=by
 rcases uL_ (d:=5) Tryz.underlying22 (by kernel_rfl) hok h hps with rfl|⟨rows,h1,h2,h3,h4⟩;exact ⟨[],.nsl,.inr ⟨rfl,rfl⟩,trivial,zb' _,by simp only [Ac]⟩;obtain ⟨l,k1,k2,k3⟩:=kg (enc:=F5) (q:=λ_=>True) (λr hr=>rU hr) rows h1;have hc:Tryz.prog.cellsOf 5=1:=(by kernel_rfl);refine ⟨l,BG F5 1 l,.inl rfl,trivial,by omega,?_⟩;have h4':=h4;rw [k1,hc,←k2]at h4';exact h4'
end Go.Proofs.YtelnbodnjmldeaaGreat.vars
