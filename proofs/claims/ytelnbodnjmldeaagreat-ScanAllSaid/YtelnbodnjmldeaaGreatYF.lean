/-
  The machine: copies, blocks, an instruction.
-/
import Derived.Test.YtelnbodnjmldeaaGreatWI
import Derived.Test.YtelnbodnjmldeaaGreatFA
import Derived.Test.YtelnbodnjmldeaaGreatXB
import Derived.Test.YtelnbodnjmldeaaGreatV4
import Derived.Test.YtelnbodnjmldeaaGreatSyS
set_option linter.all false
set_option maxHeartbeats 1000000
set_option maxRecDepth 100000
open List renaming mem_cons_self→za',mem_cons_of_mem→zc',getElem_mem→zd',append_assoc→ze'
open Nat renaming zero_le→zb'
namespace Go.Proofs.YtelnbodnjmldeaaGreat.vars
open Go Go.Sx
def vL:VC:=⟨⟨[],[]⟩,[(161,[none])],[(10005,[⟨[],[],0,0,[⟨2,3,21,0,none⟩],[],[]⟩])],1,true,[(123,O_),(162,IW)]⟩
def XQ:VT:=.lt (.opn 21 3) [66] 112 (some 63)<|Cf 162 IW (Ae 112 63++[111,93,105]) 175 12<|Dn [102,103,.vsl 21 3 (Ae 112 36++Ae 241 12++Ae 160 15),104,105,106,107]
def ma:VT:=It Qb [74,J 1] 78 (Cf 123 O_ (Ae 64 7) 79 9<|Cf 123 O_ [86,87,66,88,89,90,91] 95 9<|Li Qc [109,J 0] 111 XQ)<|Cf 123 O_ (Ae 64 7) 79 9<|Li Qc [93,J 0] 95<|.lt Z6 [66] 96 (some 63)<|Cf 162 IW (Ae 96 63++[95,J 0,89]) 159 12<|Dn [86,87,.vsl 21 3 (Ae 96 36++Ae 225 12++Ae 144 15),88,89,90,91]
def wY:VC:=⟨⟨[],[]⟩,[(161,[none])],[(10005,[⟨[],[],0,0,[⟨2,3,21,0,none⟩],[],[]⟩])],1,true,[(123,O_),(163,IZ)]⟩
def Y9:VT:=.lt (.opn 21 3) [66] 112 (some 63)<|Cf 163 IZ (Ae 112 63++[111,93]) 175 9<|Dn [102,103,.vsl 21 3 (Ae 112 48++Ae 240 9++Ae 169 6),104,105,106,107]
def pw:VT:=It Qb [74,J 1] 78 (Cf 123 O_ (Ae 64 7) 79 9<|Cf 123 O_ [86,87,66,88,89,90,91] 95 9<|Li Qc [109,J 0] 111 Y9)<|Cf 123 O_ (Ae 64 7) 79 9<|Li Qc [93,J 0] 95<|.lt Z6 [66] 96 (some 63)<|Cf 163 IZ (Ae 96 63++[95,J 0]) 159 9<|Dn [86,87,.vsl 21 3 (Ae 96 48++Ae 224 9++Ae 153 6),88,89,90,91]
def yE:VC:=⟨⟨[],[]⟩,[(161,[none])],[(10005,[⟨[],[],0,0,[⟨2,3,21,0,none⟩],[],[]⟩])],1,true,[(123,O_),(163,IU)]⟩
def ZS:VT:=.lt (.opn 21 3) [66] 96 (some 63)<|Cf 163 IU (Ae 96 63++[95,J 0]) 159 6<|Dn [86,87,.vsl 21 3 (Ae 96 57++Ae 224 6),88,89,90,91]
def pm:VT:=It Qb [74,J 1] 78 (Cf 123 O_ (Ae 64 7) 79 9<|Cf 123 O_ [86,87,66,88,89,90,91] 95 9<|Li Qc [109,J 0] 111<|.lt Z6 [66] 112 (some 63)<|Cf 163 IU (Ae 112 63++[111,93]) 175 6<|Dn [102,103,.vsl 21 3 (Ae 112 57++Ae 240 6),104,105,106,107])<|Cf 123 O_ (Ae 64 7) 79 9<|Li Qc [93,J 0] 95 ZS
def DQ_ (n z:Nat) (cs:List AV):(XOp.bin .eql 34 false true).run Tryz.prog [.vsl n z cs,.nsl]=some (.bool false):=rfl
def Md:(XOp.bin .eql 34 false true).run Tryz.prog [.nsl,.nsl]=some (.bool true):=by kernel_rfl
def sc (l:List FV):Nat->List AV->Prop:=λ_ ws=>∃s,St l s/\ws=[s]
def nA {l:List FV} {x:AV} (h:St l x) (hl:l.length<=1000):Bl 42 Ef [x] (sc l):=by refine B3 tP eA rfl rfl (by kernel_rfl) λY hf hg=>?_;unfold eA;rcases h with rfl|⟨rfl,rfl⟩;obtain ⟨r,h1,h2⟩:=SlV.app (P:=Tryz.prog) (bytes:=24) Eh (by decide) (by decide) (SlV.v []) (SlV.v l) (by simp;omega);rw [List.nil_append]at h2;exact Aa (DQ_ _ _ _) rfl (Ax (t:=false) rfl (λh=>by cases h) (λ_=>Aa h1 (St.okC h2) (Ai (by show Ak [r]=true;simp only [Ak,St.okC h2]) ⟨r,h2,rfl⟩)));exact Aa Md rfl (Ax (t:=true) rfl (λ_=>Ai rfl ⟨.nsl,.inr ⟨rfl,rfl⟩,rfl⟩) (λh=>by cases h))
def toM (m:MS) (st mem:List FV):MS:=⟨m.pc,st,mem,m.used,m.now,m.over,m.err⟩
def L8 (m:MS) (st mem:List FV):Nat->List AV->Prop:=λ_ ws=>∃s,St st s/\ws=KR (toM m st mem) s
def ZM {m:MS} {s:AV} {i:GI} {B:World} {pr:Nat->Prop} {E:Ag} {w:World} {us:List Value} (h:∀(j:Nat) (a:AV),(KR m s++k_ i)[j]? =some a->E.sy (64+j)=some a)
  (hr:As B pr E (IA.ent.heap 64) w) (hc:Ah E (CB 64 (DE IA.ent.slots)) us):As B pr E EB w/\Ah E (UC i.kd i.ad) us:=by
 refine ⟨hr,?_⟩;have e:CB 64 (DE IA.ent.slots)=[.ptr 0 0,.agg [.sym 71,.sym 72,.sym 73,.sym 74,.sym 75,.sym 76,.sym 77]]:=by kernel_rfl
 rw [e]at hc;simp only [Ah]at hc;obtain ⟨v,r,h1,h2,v2,r2,h3,h4,h5⟩:=hc;simp only [Ac]at h4;obtain ⟨vs,h6,h7⟩:=h4;show Ah E [.ptr 0 0,.agg [.sym 71,.int .i64 i.kd,.int .i64 i.ad,.sym 74,.sym 75,.sym 76,.sym 77]] us;simp only [Ah];refine ⟨v,r,h1,h2,v2,r2,h3,?_,h5⟩;simp only [Ac];exact ⟨vs,h6,KJ (a:=.sym 73) (λv hv=>SK (h 9 _ rfl) hv) 2 [.sym 71,.int .i64 i.kd,.sym 73,.sym 74,.sym 75,.sym 76,.sym 77] _ rfl (KJ (a:=.sym 72) (λv hv=>SK (h 8 _ rfl) hv) 1 [.sym 71,.sym 72,.sym 73,.sym 74,.sym 75,.sym 76,.sym 77] _ rfl h7)⟩
def zG {mem:List FV} (hm:Aw mem) {pc used now err:Int} {over:Bool} {mst st:List FV} {s:AV} (hs:St st s) (hn: -9223372036854775808<=now/\now<=9223372036854775807) (inn:Bool) {v:Int} (hv: -9223372036854775808<=v/\v<=9223372036854775807) {Y:Sy} {L:List (Nat->List AV->Prop)}
  (h66:Y.v 66=some (c_ mem)) (hk:Ar Y.v (.sym 102)=.int .i64 pc/\Ar Y.v (.sym 103)=s/\Ar Y.v (.sym 104)=.int .i64 used/\Ar Y.v (.sym 105)=.int .i64 now/\Ar Y.v (.sym 106)=.bool over/\Ar Y.v (.sym 107)=.int .i64 err) (g0:Ar Y.v (.sym 111)=.bool inn) (g1:Ar Y.v (.sym 93)=.int .i64 v):AC Tryz.prog (QF (L8 ⟨pc,mst,mem,used,now,over,err⟩ st (z_ now 6 mem inn v))) L Y XQ:=by
 obtain ⟨k0,k1,k2,k3,k4,k5⟩:=hk;have hc:=sw hm inn hv hn;obtain ⟨m0,m1,m2,m3,m4,m5,m6,m7,m8,m9,m10,m11,m12,m13,m14,m15,m16,m17,m18,m19,m20,rfl⟩:=EG hm.len;have hop:=O1 (l:=[m0,m1,m2,m3,m4,m5,m6,m7,m8,m9,m10,m11,m12,m13,m14,m15,m16,m17,m18,m19,m20]) rfl;unfold XQ;refine BV (cs:=Ay f_ [m0,m1,m2,m3,m4,m5,m6,m7,m8,m9,m10,m11,m12,m13,m14,m15,m16,m17,m18,m19,m20]) (show (XOp.opn 21 3).run Tryz.prog (An Y.v [.sym 66])=_ from by rw [show An Y.v [.sym 66]=[c_ [m0,m1,m2,m3,m4,m5,m6,m7,m8,m9,m10,m11,m12,m13,m14,m15,m16,m17,m18,m19,m20]] from by simp only [An,Ar,h66]];exact hop) rfl (A9 BI _) ?_;have hd:An (Y.puts 112 (Ay f_ [m0,m1,m2,m3,m4,m5,m6,m7,m8,m9,m10,m11,m12,m13,m14,m15,m16,m17,m18,m19,m20])).v (Ae 112 63++[.sym 111,.sym 93,.sym 105])=Ay f_ [m0,m1,m2,m3,m4,m5,m6,m7,m8,m9,m10,m11,m12,m13,m14,m15,m16,m17,m18,m19,m20]++[.bool inn,.int .i64 v,.int .i64 now]:=by rw [MZ];refine congr (congrArg _ rfl) ?_;show [Ar Y.v (.sym 111),Ar Y.v (.sym 93),Ar Y.v (.sym 105)]=_;rw [g0,g1,k3]
 refine BL (show Bl 162 IW (An (Y.puts 112 (Ay f_ [m0,m1,m2,m3,m4,m5,m6,m7,m8,m9,m10,m11,m12,m13,m14,m15,m16,m17,m18,m19,m20])).v (Ae 112 63++[.sym 111,.sym 93,.sym 105])) _ from by rw [hd];exact hc) (show Ak (An (Y.puts 112 (Ay f_ [m0,m1,m2,m3,m4,m5,m6,m7,m8,m9,m10,m11,m12,m13,m14,m15,m16,m17,m18,m19,m20])).v (Ae 112 63++[.sym 111,.sym 93,.sym 105]))=true from by rw [hd];exact A9.okL_join (A9 BI _) rfl) ⟨?_,trivial⟩;intro ws hws;obtain ⟨x1,x2,x3,x4,e,_⟩:=X6 m14.i m15.i inn (v:=v) (now:=now) hv.2 hn (((Aw.of.1 hm).2.2.2.2.2.2.2.2.2.2.2.2.2.2.2.2.1).1.i64);have hws:ws=Ay f_ (Ep m14.i m15.i inn v now):=hws;rw [e]at hws;subst hws;have hbk:z_ now 6 [m0,m1,m2,m3,m4,m5,m6,m7,m8,m9,m10,m11,m12,m13,m14,m15,m16,m17,m18,m19,m20] inn v=[m0,m1,m2,m3,m4,m5,m6,m7,m8,m9,m10,m11,x1,x2,x3,x4,m16,m17,m18,m19,m20]:=by show HZ _ 12 (Ep m14.i m15.i inn v now)=_;rw [e];rfl
 rw [hbk];refine Ai (j:=0) (hv:=.sym 102::_) ?_ ?_;show Ak [Ar Y.v (.sym 102),Ar Y.v (.sym 103),c_ [m0,m1,m2,m3,m4,m5,m6,m7,m8,m9,m10,m11,x1,x2,x3,x4,m16,m17,m18,m19,m20],Ar Y.v (.sym 104),Ar Y.v (.sym 105),Ar Y.v (.sym 106),Ar Y.v (.sym 107)]=true;rw [k0,k1,k2,k3,k4,k5];exact EJ ⟨pc,st,[m0,m1,m2,m3,m4,m5,m6,m7,m8,m9,m10,m11,x1,x2,x3,x4,m16,m17,m18,m19,m20],used,now,over,err⟩ (St.okC hs);refine ⟨s,hs,?_⟩;show [Ar Y.v (.sym 102),Ar Y.v (.sym 103),c_ [m0,m1,m2,m3,m4,m5,m6,m7,m8,m9,m10,m11,x1,x2,x3,x4,m16,m17,m18,m19,m20],Ar Y.v (.sym 104),Ar Y.v (.sym 105),Ar Y.v (.sym 106),Ar Y.v (.sym 107)]=_;rw [k0,k1,k2,k3,k4,k5];rfl
def tR {mem:List FV} (hm:Aw mem) {pc used now err:Int} {over:Bool} {mst st:List FV} {s:AV} (hs:St st s) (hn: -9223372036854775808<=now/\now<=9223372036854775807) (inn:Bool) {v:Int} (hv: -9223372036854775808<=v/\v<=9223372036854775807) {Y:Sy} {L:List (Nat->List AV->Prop)}
  (h66:Y.v 66=some (c_ mem)) (hk:Ar Y.v (.sym 102)=.int .i64 pc/\Ar Y.v (.sym 103)=s/\Ar Y.v (.sym 104)=.int .i64 used/\Ar Y.v (.sym 105)=.int .i64 now/\Ar Y.v (.sym 106)=.bool over/\Ar Y.v (.sym 107)=.int .i64 err) (g0:Ar Y.v (.sym 111)=.bool inn) (g1:Ar Y.v (.sym 93)=.int .i64 v):AC Tryz.prog (QF (L8 ⟨pc,mst,mem,used,now,over,err⟩ st (z_ now 9 mem inn v))) L Y Y9:=by
 obtain ⟨k0,k1,k2,k3,k4,k5⟩:=hk;have hc:=tB hm inn v;obtain ⟨m0,m1,m2,m3,m4,m5,m6,m7,m8,m9,m10,m11,m12,m13,m14,m15,m16,m17,m18,m19,m20,rfl⟩:=EG hm.len;have hop:=O1 (l:=[m0,m1,m2,m3,m4,m5,m6,m7,m8,m9,m10,m11,m12,m13,m14,m15,m16,m17,m18,m19,m20]) rfl;unfold Y9;refine BV (cs:=Ay f_ [m0,m1,m2,m3,m4,m5,m6,m7,m8,m9,m10,m11,m12,m13,m14,m15,m16,m17,m18,m19,m20]) (show (XOp.opn 21 3).run Tryz.prog (An Y.v [.sym 66])=_ from by rw [show An Y.v [.sym 66]=[c_ [m0,m1,m2,m3,m4,m5,m6,m7,m8,m9,m10,m11,m12,m13,m14,m15,m16,m17,m18,m19,m20]] from by simp only [An,Ar,h66]];exact hop) rfl (A9 BI _) ?_;have hd:An (Y.puts 112 (Ay f_ [m0,m1,m2,m3,m4,m5,m6,m7,m8,m9,m10,m11,m12,m13,m14,m15,m16,m17,m18,m19,m20])).v (Ae 112 63++[.sym 111,.sym 93])=Ay f_ [m0,m1,m2,m3,m4,m5,m6,m7,m8,m9,m10,m11,m12,m13,m14,m15,m16,m17,m18,m19,m20]++[.bool inn,.int .i64 v]:=by rw [MZ];refine congr (congrArg _ rfl) ?_;show [Ar Y.v (.sym 111),Ar Y.v (.sym 93)]=_;rw [g0,g1]
 refine BL (show Bl 163 IZ (An (Y.puts 112 (Ay f_ [m0,m1,m2,m3,m4,m5,m6,m7,m8,m9,m10,m11,m12,m13,m14,m15,m16,m17,m18,m19,m20])).v (Ae 112 63++[.sym 111,.sym 93])) _ from by rw [hd];exact hc) (show Ak (An (Y.puts 112 (Ay f_ [m0,m1,m2,m3,m4,m5,m6,m7,m8,m9,m10,m11,m12,m13,m14,m15,m16,m17,m18,m19,m20])).v (Ae 112 63++[.sym 111,.sym 93]))=true from by rw [hd];exact A9.okL_join (A9 BI _) rfl) ⟨?_,trivial⟩;intro ws hws;obtain ⟨x1,x2,x3,e,_⟩:=W6 m18.i inn v (gS hm);have hws:ws=Ay f_ (Ed m17.i m18.i inn v):=hws;rw [e]at hws;subst hws;have hbk:z_ now 9 [m0,m1,m2,m3,m4,m5,m6,m7,m8,m9,m10,m11,m12,m13,m14,m15,m16,m17,m18,m19,m20] inn v=[m0,m1,m2,m3,m4,m5,m6,m7,m8,m9,m10,m11,m12,m13,m14,m15,x1,x2,x3,m19,m20]:=by show HZ _ 16 (Ed m17.i m18.i inn v)=_;rw [e];rfl
 rw [hbk];refine Ai (j:=0) (hv:=.sym 102::_) ?_ ?_;show Ak [Ar Y.v (.sym 102),Ar Y.v (.sym 103),c_ [m0,m1,m2,m3,m4,m5,m6,m7,m8,m9,m10,m11,m12,m13,m14,m15,x1,x2,x3,m19,m20],Ar Y.v (.sym 104),Ar Y.v (.sym 105),Ar Y.v (.sym 106),Ar Y.v (.sym 107)]=true;rw [k0,k1,k2,k3,k4,k5];exact EJ ⟨pc,st,[m0,m1,m2,m3,m4,m5,m6,m7,m8,m9,m10,m11,m12,m13,m14,m15,x1,x2,x3,m19,m20],used,now,over,err⟩ (St.okC hs);refine ⟨s,hs,?_⟩;show [Ar Y.v (.sym 102),Ar Y.v (.sym 103),c_ [m0,m1,m2,m3,m4,m5,m6,m7,m8,m9,m10,m11,m12,m13,m14,m15,x1,x2,x3,m19,m20],Ar Y.v (.sym 104),Ar Y.v (.sym 105),Ar Y.v (.sym 106),Ar Y.v (.sym 107)]=_;rw [k0,k1,k2,k3,k4,k5];rfl
def tf {mem:List FV} (hm:Aw mem) {pc used now err:Int} {over:Bool} {mst st:List FV} {s:AV} (hs:St st s) (hn: -9223372036854775808<=now/\now<=9223372036854775807) (inn:Bool) {v:Int} (hv: -9223372036854775808<=v/\v<=9223372036854775807) {Y:Sy} {L:List (Nat->List AV->Prop)}
  (h66:Y.v 66=some (c_ mem)) (hk:Ar Y.v (.sym 86)=.int .i64 pc/\Ar Y.v (.sym 87)=s/\Ar Y.v (.sym 88)=.int .i64 used/\Ar Y.v (.sym 89)=.int .i64 now/\Ar Y.v (.sym 90)=.bool over/\Ar Y.v (.sym 91)=.int .i64 err) (g0:Ar Y.v (.sym 95)=.bool inn):AC Tryz.prog (QF (L8 ⟨pc,mst,mem,used,now,over,err⟩ st (z_ now 11 mem inn 0))) L Y ZS:=by
 obtain ⟨k0,k1,k2,k3,k4,k5⟩:=hk;have hc:=uY hm inn 0;obtain ⟨m0,m1,m2,m3,m4,m5,m6,m7,m8,m9,m10,m11,m12,m13,m14,m15,m16,m17,m18,m19,m20,rfl⟩:=EG hm.len;have hop:=O1 (l:=[m0,m1,m2,m3,m4,m5,m6,m7,m8,m9,m10,m11,m12,m13,m14,m15,m16,m17,m18,m19,m20]) rfl;unfold ZS;refine BV (cs:=Ay f_ [m0,m1,m2,m3,m4,m5,m6,m7,m8,m9,m10,m11,m12,m13,m14,m15,m16,m17,m18,m19,m20]) (show (XOp.opn 21 3).run Tryz.prog (An Y.v [.sym 66])=_ from by rw [show An Y.v [.sym 66]=[c_ [m0,m1,m2,m3,m4,m5,m6,m7,m8,m9,m10,m11,m12,m13,m14,m15,m16,m17,m18,m19,m20]] from by simp only [An,Ar,h66]];exact hop) rfl (A9 BI _) ?_;have hd:An (Y.puts 96 (Ay f_ [m0,m1,m2,m3,m4,m5,m6,m7,m8,m9,m10,m11,m12,m13,m14,m15,m16,m17,m18,m19,m20])).v (Ae 96 63++[.sym 95,.int .i64 0])=Ay f_ [m0,m1,m2,m3,m4,m5,m6,m7,m8,m9,m10,m11,m12,m13,m14,m15,m16,m17,m18,m19,m20]++[.bool inn,.int .i64 0]:=by rw [MZ];refine congr (congrArg _ rfl) ?_;show [Ar Y.v (.sym 95),.int .i64 0]=_;rw [g0]
 refine BL (show Bl 163 IU (An (Y.puts 96 (Ay f_ [m0,m1,m2,m3,m4,m5,m6,m7,m8,m9,m10,m11,m12,m13,m14,m15,m16,m17,m18,m19,m20])).v (Ae 96 63++[.sym 95,.int .i64 0])) _ from by rw [hd];exact hc) (show Ak (An (Y.puts 96 (Ay f_ [m0,m1,m2,m3,m4,m5,m6,m7,m8,m9,m10,m11,m12,m13,m14,m15,m16,m17,m18,m19,m20])).v (Ae 96 63++[.sym 95,.int .i64 0]))=true from by rw [hd];exact A9.okL_join (A9 BI _) rfl) ⟨?_,trivial⟩;intro ws hws;obtain ⟨x1,x2,e,_⟩:=(⟨_,_,rfl,trivial⟩:∃a b,E4 m20.i inn=[a,b]/\True);have hws:ws=Ay f_ (E4 m20.i inn):=hws;rw [e]at hws;subst hws;have hbk:z_ now 11 [m0,m1,m2,m3,m4,m5,m6,m7,m8,m9,m10,m11,m12,m13,m14,m15,m16,m17,m18,m19,m20] inn 0=[m0,m1,m2,m3,m4,m5,m6,m7,m8,m9,m10,m11,m12,m13,m14,m15,m16,m17,m18,x1,x2]:=by show HZ _ 19 (E4 m20.i inn)=_;rw [e];rfl
 rw [hbk];refine Ai (j:=0) (hv:=.sym 86::_) ?_ ?_;show Ak [Ar Y.v (.sym 86),Ar Y.v (.sym 87),c_ [m0,m1,m2,m3,m4,m5,m6,m7,m8,m9,m10,m11,m12,m13,m14,m15,m16,m17,m18,x1,x2],Ar Y.v (.sym 88),Ar Y.v (.sym 89),Ar Y.v (.sym 90),Ar Y.v (.sym 91)]=true;rw [k0,k1,k2,k3,k4,k5];exact EJ ⟨pc,st,[m0,m1,m2,m3,m4,m5,m6,m7,m8,m9,m10,m11,m12,m13,m14,m15,m16,m17,m18,x1,x2],used,now,over,err⟩ (St.okC hs);refine ⟨s,hs,?_⟩;show [Ar Y.v (.sym 86),Ar Y.v (.sym 87),c_ [m0,m1,m2,m3,m4,m5,m6,m7,m8,m9,m10,m11,m12,m13,m14,m15,m16,m17,m18,x1,x2],Ar Y.v (.sym 88),Ar Y.v (.sym 89),Ar Y.v (.sym 90),Ar Y.v (.sym 91)]=_;rw [k0,k1,k2,k3,k4,k5];rfl
def IC_ {m:MS} {s:AV} {st inn:List FV} {i:GI} (hs:St (st++inn) s) (hl:st.length<=90) (hm:Aw m.mem) (hn: -9223372036854775808<=m.now/\m.now<=9223372036854775807) (hb:Nl i.kd i.ad (inn.map FV.k)) (hi:i.n=(inn.length:Int)) (tv:∀v∈inn,TV v):
  Bl 124 IA (KR m s++k_ i) (L8 m st (z_ m.now i.kd m.mem (decide ((inn.headD FV.z).i≠0)) (inn.tail.headD FV.z).i)):=by
 obtain ⟨op,kd,ad,n,vk,vi,vf⟩:=i;simp only at hb hi;obtain ⟨pc,mst,mem,used,now,over,err⟩:=m;have hm:Aw mem:=hm;have hn: -9223372036854775808<=now/\now<=9223372036854775807:=hn;rcases hb with ⟨rfl,rfl,hk⟩|⟨rfl,rfl,hk⟩|⟨rfl,rfl,hk⟩
 .obtain ⟨a,b,rfl,ka,kb⟩:=HS hk;have hn2:n=2:=hi;have tb:=(tv b (zc' _ za')).1.i64;have hs':St ((st++[a])++[b]) s:=(by rw [List.append_assoc];exact hs);show Bl 124 IA _ (L8 _ st (z_ now 6 mem (decide (¬a.i=0)) b.i));rw [decide_not];refine Ll (c:=vL) (ex:=[]) (ag:=UC 6 12) (H:=EB) (n:=300) (t:=ma) mo ov rfl (λY=>Cn _) rfl (λB pr E w us h _ hr hc=>ZM (i:=⟨op,6,12,n,vk,vi,vf⟩) h hr hc) (by kernel_rfl) λY hf hg=>?_;unfold ma
  (refine g_ rfl rfl ?_ ?_<;>intro h<;>simp only [nc]at h<;>try omega)
  refine BL (Gx (m:=⟨pc,mst,mem,used,now,over,err⟩) hs' (by simp;omega)) (show Ak (KR ⟨pc,mst,mem,used,now,over,err⟩ s)=true from EJ _ (St.okC hs)) ⟨?_,trivial⟩;rintro ws ⟨s0,hs0,rfl⟩;refine BL (Gx (m:=⟨pc,mst,mem,used,now,over,err⟩) hs0 (by omega)) (show Ak (KR ⟨pc,mst,mem,used,now,over,err⟩ s0)=true from EJ _ (St.okC hs0)) ⟨?_,trivial⟩;rintro ws ⟨s1,hs1,rfl⟩;exact Aa (Al ..) rfl (zG hm hs1 hn (!decide (a.i=0)) tb rfl ⟨rfl,rfl,rfl,rfl,rfl,rfl⟩ rfl rfl)
 .obtain ⟨a,b,rfl,ka,kb⟩:=HS hk;have hn2:n=2:=hi;have tb:=(tv b (zc' _ za')).1.i64;have hs':St ((st++[a])++[b]) s:=(by rw [List.append_assoc];exact hs);show Bl 124 IA _ (L8 _ st (z_ now 9 mem (decide (¬a.i=0)) b.i));rw [decide_not];refine Ll (c:=wY) (ex:=[]) (ag:=UC 9 16) (H:=EB) (n:=300) (t:=pw) mo ov rfl (λY=>Cn _) rfl (λB pr E w us h _ hr hc=>ZM (i:=⟨op,9,16,n,vk,vi,vf⟩) h hr hc) (by kernel_rfl) λY hf hg=>?_;unfold pw
  (refine g_ rfl rfl ?_ ?_<;>intro h<;>simp only [nc]at h<;>try omega)
  refine BL (Gx (m:=⟨pc,mst,mem,used,now,over,err⟩) hs' (by simp;omega)) (show Ak (KR ⟨pc,mst,mem,used,now,over,err⟩ s)=true from EJ _ (St.okC hs)) ⟨?_,trivial⟩;rintro ws ⟨s0,hs0,rfl⟩;refine BL (Gx (m:=⟨pc,mst,mem,used,now,over,err⟩) hs0 (by omega)) (show Ak (KR ⟨pc,mst,mem,used,now,over,err⟩ s0)=true from EJ _ (St.okC hs0)) ⟨?_,trivial⟩;rintro ws ⟨s1,hs1,rfl⟩;exact Aa (Al ..) rfl (tR hm hs1 hn (!decide (a.i=0)) tb rfl ⟨rfl,rfl,rfl,rfl,rfl,rfl⟩ rfl rfl)
 .obtain ⟨a,rfl,ka⟩:=X_ hk;have hn2:n=1:=hi;show Bl 124 IA _ (L8 _ st (z_ now 11 mem (decide (¬a.i=0)) 0));rw [decide_not];refine Ll (c:=yE) (ex:=[]) (ag:=UC 11 19) (H:=EB) (n:=300) (t:=pm) mo ov rfl (λY=>Cn _) rfl (λB pr E w us h _ hr hc=>ZM (i:=⟨op,11,19,n,vk,vi,vf⟩) h hr hc) (by kernel_rfl) λY hf hg=>?_;unfold pm
  (refine g_ rfl rfl ?_ ?_<;>intro h<;>simp only [nc]at h<;>try omega)
  refine BL (Gx (m:=⟨pc,mst,mem,used,now,over,err⟩) hs (by omega)) (show Ak (KR ⟨pc,mst,mem,used,now,over,err⟩ s)=true from EJ _ (St.okC hs)) ⟨?_,trivial⟩;rintro ws ⟨s1,hs1,rfl⟩;exact Aa (Al ..) rfl (tf hm hs1 hn (!decide (a.i=0)) (v:=0) (by decide) rfl ⟨rfl,rfl,rfl,rfl,rfl,rfl⟩ rfl)
def VW (us:Int) (m q:MS):Nat->List AV->Prop:=λj ws=>
 (q.err=0/\j=0/\∃s,St q.st s/\ws=KR ⟨m.pc,q.st,q.mem,us,m.now,q.over,m.err⟩ s++[.int .i64 q.pc])\/(q.err≠0/\j=1/\ws=[.int .i64 q.err])
def tM {Q:AV->Prop} {L:List (Nat->List AV->Prop)} {Y:Sy} {a:VT} (h:AC Tryz.prog Q L Y a):AC Tryz.prog Q L Y (.both a (.both a a)):=⟨h,h,h⟩
def iu {op kd ad n:Int} {a b:FV} {mem:List FV} (h3:op≠3) (h17:op≠17):LY mem op kd ad n a b=CV op a b:=eu h3 h17
def Vy {i:GI} {m:MS} {rest inn:List FV} (h:i.op<=17):Ct i m rest inn=(match FI i m.mem (inn.headD FV.z) (inn.getLastD FV.z)with
 | .error e=>Fr m e
 | .ok v=>CI m (m.pc+1) (rest++[v]) m.mem):=by unfold Ct;exact Ad h
def IR {us:Int} {m q:MS} {s:AV} (he:q.err=0) (hs:St q.st s) {hv:List AV} {Y:Sy} {L:List (Nat->List AV->Prop)} (h:An Y.v hv=KR ⟨m.pc,q.st,q.mem,us,m.now,q.over,m.err⟩ s++[.int .i64 q.pc]):AC Tryz.prog (QF (VW us m q)) L Y (.done (.tup (.int .i64 0::hv))):=
 Ai (j:=0) (by rw [h];exact Mv _ (St.okC hs) rfl) (.inl ⟨he,rfl,s,hs,h⟩)
def Vf {us e:Int} {m q:MS} (hq:q.err=e) (he:e≠0) {hv:List AV} {Y:Sy} {L:List (Nat->List AV->Prop)} (h:An Y.v hv=[.int .i64 e]):AC Tryz.prog (QF (VW us m q)) L Y (.done (.tup (.int .i64 1::hv))):=
 Ai (j:=1) (by rw [h];rfl) (.inr ⟨by rw [hq];exact he,rfl,by rw [hq];exact h⟩)
def c83:VC:=⟨⟨[],[]⟩,[],[],1,true,[(121,v_),(122,V8),(123,O_),(124,IA),(125,W2),(126,NF)]⟩
def Sn:VT:=.callF 122 V8 (Ae 64 14) 81 (.cons 7 (Li Q2 [66,101] 102<|.lt Qx [66,102] 103 (some 3)<|Cf 121 v_ [95,96,66,97,98,99,100,103,104,105] 106 6<|Li Q3 [116,J 1] 122<|Dn ([116,117,66]++Ae 118 5)) (.cons 1 (.done (.tup [J 1,95])) .nil))
def fF:VT:=Iq 71 1 78 (Cf 121 v_ (Ae 64 7++[75,76,77]) 79 6<|Li Q3 [89,J 1] 95<|Dn ([89,90,66]++Ae 91 5))<|Iq 71 2 79 (Li Q2 [66,73] 80<|.lt Qx [66,80] 81 (some 3)<|Cf 121 v_ (Ae 64 7++[81,82,83]) 84 6<|Li Q3 [94,J 1] 100<|Dn ([94,95,66]++Ae 96 5))<|Iq 71 3 80 (.both Sn<|.both Sn Sn)<|Iq 71 18 81 (Cf 123 O_ (Ae 64 7) 82 9<|Li Q2 [66,73] 98<|Li Z1 [66,98,.agg [95,96,97]] 99<|Li Q3 [89,J 1] 100<|.chk (.same 66 99)<|Dn [89,90,99,91,92,93,94,100])<|Iq 71 19 82 (.callF 122 V8 (Ae 64 14) 83 (.cons 7 (Cf 123 O_ [97,98,66,99,100,101,102] 104 9<|Li Q2 [66,103] 120<|Li Z1 [66,120,.agg [117,118,119]] 121<|Li Q3 [111,J 1] 122<|.chk (.same 66 121)<|Dn [111,112,121,113,114,115,116,122]) (.cons 1 (.done (.tup [J 1,97])) .nil)))<|Iq 71 20 83 (Dn (Ae 64 7++[73]))<|Iq 71 21 84 (Cf 123 O_ (Ae 64 7) 85 9<|It Qt [99,J 0] 101 (Dn [92,93,66,94,95,96,97,73])<|Li Q3 [92,J 1] 102<|Dn [92,93,66,94,95,96,97,102])<|Iq 71 22 85 (Cf 124 IA (Ae 64 14) 86 7<|Li Q3 [100,J 1] 107<|Dn (Ae 100 8))<|Iq 71 23 86 (Dn [64,65,66,67,68,.bool true,70,64])<|Iq 71 17 87 (.callF 125 W2 (Ae 64 14) 88 (.cons 6 (Li Q3 [102,J 1] 108<|Dn ([102,103,66]++Ae 104 5)) (.cons 1 (.done (.tup [J 1,102])) .nil)))<|.callF 126 NF (Ae 64 14) 88 (.cons 6 (Li Q3 [102,J 1] 108<|Dn ([102,103,66]++Ae 104 5)) (.cons 1 (.done (.tup [J 1,102])) .nil))
def J7 {m:MS} {i:GI} {rest inn:List FV} {v:FV} (h17:i.op<=17) (ht:FI i m.mem (inn.headD FV.z) (inn.getLastD FV.z)=.ok v):Ct i m rest inn=CI m (m.pc+1) (rest++[v]) m.mem:=by rw [Vy h17,ht]
def R0 {m:MS} {i:GI} {rest inn:List FV} {e:Int} (h17:i.op<=17) (ht:FI i m.mem (inn.headD FV.z) (inn.getLastD FV.z)=.error e):Ct i m rest inn=Fr m e:=by rw [Vy h17,ht]
def Mr {i:GI} {mem:List FV} {a b:FV} (h1:i.op≠1) (h2:i.op≠2):FI i mem a b=LY mem i.op i.kd i.ad i.n a b:=by unfold FI;rw [Ab h1,Ab h2]
def kI {i:GI} {m:MS} {rest inn:List FV} (h:i.op=18):Ct i m rest inn=CI m (m.pc+1) rest (m.mem.set i.ad.toNat (inn.headD FV.z)):=by unfold Ct;rw [Ab (by omega),Ad h]
def XN {i:GI} {m:MS} {rest inn:List FV} (h:i.op=19):Ct i m rest inn=if (inn.getLastD FV.z).i<0\/i.n<=(inn.getLastD FV.z).i then Fr m 6 else CI m (m.pc+1) rest (m.mem.set (i.ad+(inn.getLastD FV.z).i).toNat (inn.headD FV.z)):=by unfold Ct;rw [Ab (by omega),Ab (by omega),Ad h]
def gO {i:GI} {m:MS} {rest inn:List FV} (h:i.op=20):Ct i m rest inn=CI m i.ad rest m.mem:=by unfold Ct;rw [Ab (by omega),Ab (by omega),Ab (by omega),Ad h]
def gk {i:GI} {m:MS} {rest inn:List FV} (h:i.op=21):Ct i m rest inn=CI m (if (inn.headD FV.z).i=0 then i.ad else m.pc+1) rest m.mem:=by unfold Ct;rw [Ab (by omega),Ab (by omega),Ab (by omega),Ab (by omega),Ad h]
def oS {i:GI} {m:MS} {rest inn:List FV} (h:i.op=22):Ct i m rest inn=CI m (m.pc+1) rest (z_ m.now i.kd m.mem (decide ((inn.headD FV.z).i≠0)) (inn.tail.headD FV.z).i):=by unfold Ct;rw [Ab (by omega),Ab (by omega),Ab (by omega),Ab (by omega),Ab (by omega),Ad h]
def ni {i:GI} {m:MS} {rest inn:List FV} (h:i.op=23):Ct i m rest inn=⟨m.pc,rest,m.mem,m.used+1,m.now,true,m.err⟩:=by unfold Ct;rw [Ab (by omega),Ab (by omega),Ab (by omega),Ab (by omega),Ab (by omega),Ab (by omega)]
def R1 {inn:List FV} (h:inn.map FV.k=[]):inn=[]:=List.map_eq_nil_iff.1 h
def VO {mem:List FV} {n:Nat} (h:n<mem.length):cell mem (n:Int)=mem[n]:=nK h
def Wl {us:Int} {m:MS} {s:AV} {st:List FV} {v:FV} {q:MS} (hs:St st s) (hl:st.length<=100) (hpc:0<=m.pc/\m.pc<=1000000) (he:m.err=0) (hq:q=CI m (m.pc+1) (st++[v]) m.mem) {Y:Sy} {L:List (Nat->List AV->Prop)} {hv hw:List AV} {n k:Nat} {x:AV} {t:TypeId}
  (h:An Y.v hv=KR ⟨m.pc,m.st,m.mem,us,m.now,m.over,m.err⟩ s++f_ v)
  (hx:∀s',Ar ((Y.puts n (An Y.v hv)).puts (n+10) (KS ⟨m.pc,m.st,m.mem,us,m.now,m.over,m.err⟩ s')).v x=.int .i64 m.pc)
  (hw':∀s',An (((Y.puts n (An Y.v hv)).puts (n+10) (KS ⟨m.pc,m.st,m.mem,us,m.now,m.over,m.err⟩ s')).put k (.int .i64 (m.pc+1))).v hw=KR ⟨m.pc,st++[v],m.mem,us,m.now,m.over,m.err⟩ s'++[.int .i64 (m.pc+1)]):
  AC Tryz.prog (QF (VW us m q)) L Y (.callF 121 v_ hv n (.cons 6 (.lt (.bin .add t false true) [x,.int .i64 1] k none (.done (.tup (.int .i64 0::hw)))) .nil)):=by
 have hp:=l8 (m:=⟨m.pc,m.st,m.mem,us,m.now,m.over,m.err⟩) (v:=v) hs hl;rw [←h]at hp;refine BL hp (by rw [h];exact Mv _ (St.okC hs) (BI v)) ⟨?_,trivial⟩;rintro ws ⟨s1,hs1,rfl⟩;subst hq;refine Aa (r:=.int .i64 (m.pc+1)) ?_ rfl (IR (q:=CI m (m.pc+1) (st++[v]) m.mem) he hs1 (hw' s1));exact (congrArg (λz=>(XOp.bin .add t false true).run Tryz.prog [z,.int .i64 1]) (hx s1)).trans (o_ (by omega) (by omega))
def qx {m:MS} {s:AV} {i:GI} {T:List (List Int)} {p:Nat} (us:Int) (hs:St m.st s) (he:m.err=0) (hpc:0<=m.pc/\m.pc<=1000000) (hn: -9223372036854775808<=m.now/\m.now<=9223372036854775807) (hT:TI T p i (m.st.map FV.k)) (tv:∀v∈m.st,TV v) (hm:Aw m.mem):
  Bl 83 YT (KR ⟨m.pc,m.st,m.mem,us,m.now,m.over,m.err⟩ s++k_ i) (VW us m (Ct i m (m.st.take (m.st.length-d_ i)) (m.st.drop (m.st.length-d_ i)))):=by
 obtain ⟨K0,ks,hK,hks,h40,hT⟩:=hT;obtain ⟨s1,s2⟩:=WR hK;have hst:m.st=m.st.take (m.st.length-d_ i)++m.st.drop (m.st.length-d_ i):=(List.take_append_drop _ _).symm;rw [hks]at s1 s2;have hl40:m.st.length<=40:=by rw [List.length_map]at h40;exact h40
 have hlr:(m.st.take (m.st.length-d_ i)).length<=40:=by rw [List.length_take];omega
 have v2:∀v∈m.st.drop (m.st.length-d_ i),TV v:=λv hv=>tv v (List.mem_of_mem_drop hv);have hlen:=hm.len;obtain ⟨pc,mst,mem,used,now,over,err⟩:=m;simp only at hs he hpc hn hst hl40 hlr v2 hlen hm s1 s2⊢;generalize mst.take (mst.length-d_ i)=rest at*;generalize mst.drop (mst.length-d_ i)=inn at*;subst hst he;clear hK h40 tv;obtain ⟨op,kd,ad,n,vk,vi,vf⟩:=i;simp only at hT;refine B3 c83 fF rfl rfl (by kernel_rfl) λY hf hg=>?_;unfold fF;have okK:=λl (h:Ak l=true)=>Mv ⟨pc,rest++inn,mem,us,now,over,0⟩ (St.okC hs) (l:=l) h;have BM:=okK (k_ ⟨op,kd,ad,n,vk,vi,vf⟩) rfl;have ok0:Ak (KR ⟨pc,rest++inn,mem,us,now,over,0⟩ s)=true:=EJ _ (St.okC hs);rcases hT with ⟨k,hk,hT⟩|⟨hk,hT⟩|⟨h20,q,hq,hT⟩|h23
 .rcases hT with ⟨h1,h2,h3⟩|⟨h1,h2⟩|⟨h1,h2,h3,h4,h5⟩|⟨h1,h2,h3,h4,h5,h6⟩|⟨h1,h2,h3⟩
  .subst h1;have hk0:ks=[]:=List.length_eq_zero_iff.1 hks;obtain rfl:=R1 (s2.trans hk0);rw [List.append_nil]at*;rw [J7 (v:=⟨vk,vi,some vf⟩) (by show (1:Int)<=17;decide) rfl]
   (refine g_ rfl rfl ?_ ?_<;>intro h<;>simp only [nc]at h<;>try omega)
   exact Wl (m:=⟨pc,rest,mem,used,now,over,0⟩) (v:=⟨vk,vi,some vf⟩) hs (by omega) hpc rfl rfl rfl (λs'=>rfl) (λs'=>rfl)
  .subst h1;have hk0:ks=[]:=List.length_eq_zero_iff.1 hks;obtain rfl:=R1 (s2.trans hk0);rw [List.append_nil]at*;obtain ⟨c1,c2,c3⟩:=ED _ h2;simp only at c1 c2;obtain ⟨j,rfl⟩:∃j:Nat,ad=(j:Int):=⟨ad.toNat,by omega⟩;have hj:j<mem.length:=(by omega);rw [J7 (v:=mem[j]) (by show (2:Int)<=17;decide) (by show Except.ok (cell mem (j:Int))=_;rw [VO hj])]
   (refine g_ rfl rfl ?_ ?_<;>intro h<;>simp only [nc]at h<;>try omega)
   (refine g_ rfl rfl ?_ ?_<;>intro h<;>simp only [nc]at h<;>try omega)
   refine Aa (A_ mem hj) rfl (BV (MJ mem hj) rfl (BI _) ?_);exact Wl (m:=⟨pc,rest,mem,used,now,over,0⟩) (v:=mem[j]) hs (by omega) hpc rfl rfl rfl (λs'=>rfl) (λs'=>rfl)
  .subst h1 h2 h3;obtain ⟨x,rfl,hxk⟩:∃x,inn=[x]/\(x.k=2\/x.k=3):=by rcases h5 with h5|h5;obtain ⟨x,e,hx⟩:=X_ (s2.trans h5);exact ⟨x,e,.inl hx⟩;obtain ⟨x,e,hx⟩:=X_ (s2.trans h5);exact ⟨x,e,.inr hx⟩
   (refine g_ rfl rfl ?_ ?_<;>intro h<;>simp only [nc]at h<;>try omega)
   (refine g_ rfl rfl ?_ ?_<;>intro h<;>simp only [nc]at h<;>try omega)
   (refine g_ rfl rfl ?_ ?_<;>intro h<;>simp only [nc]at h<;>try omega)
   refine tM ?_;unfold Sn;refine BL (o8 (m:=⟨pc,rest++[x],mem,us,now,over,0⟩) (i:=⟨3,kd,8,4,vk,vi,vf⟩) hs (by omega) rfl rfl) BM ⟨?_,?_,trivial⟩;rintro ws (⟨_,h0,_⟩|⟨hr,_,s3,hs3,rfl⟩);cases h0;have hr:¬(x.i<0\/4<=x.i):=hr;obtain ⟨j,hj0⟩:∃j:Nat,8+x.i=(j:Int):=⟨(8+x.i).toNat,by omega⟩;have hj:j<mem.length:=(by omega);rw [J7 (v:=mem[j]) (by show (3:Int)<=17;decide) (by rw [Mr (by show (3:Int)≠1;decide) (by show (3:Int)≠2;decide)];show (if (3:Int)=3 then (if x.i<0\/4<=x.i then Except.error 6 else Except.ok (cell mem (8+x.i)))else _)=_;rw [Ad rfl,Ab hr,hj0,VO hj])];show AC _ _ _ (Sy.puts _ _ (KS _ s3++[.int .i64 (8+x.i)])) _;rw [hj0];refine Aa (A_ mem hj) rfl (BV (MJ mem hj) rfl (BI _) ?_);exact Wl (m:=⟨pc,rest++[x],mem,used,now,over,0⟩) (v:=mem[j]) hs3 (by omega) hpc rfl rfl rfl (λs'=>rfl) (λs'=>rfl);rintro ws (⟨hr,_,rfl⟩|⟨_,h0,_⟩);have hr:x.i<0\/4<=x.i:=hr;exact Vf (by rw [R0 (e:=6) (by show (3:Int)<=17;decide) (by rw [Mr (by show (3:Int)≠1;decide) (by show (3:Int)≠2;decide)];show (if (3:Int)=3 then (if x.i<0\/4<=x.i then Except.error 6 else Except.ok (cell mem (8+x.i)))else _)=_;rw [Ad rfl,Ad hr])];rfl) (by decide) rfl;cases h0
  .subst h1 h4;obtain ⟨a,rfl,ha⟩:=X_ (s2.trans h5);have ht:FI ⟨17,k,ad,n,vk,vi,vf⟩ mem a a=H_ k a:=by rw [Mr (by show (17:Int)≠1;decide) (by show (17:Int)≠2;decide)];show (if (17:Int)=3 then _ else if (17:Int)=17 then H_ k a else _)=_;rw [Ab (by decide),Ad rfl]
   have hc:=s9 (m:=⟨pc,rest++[a],mem,us,now,over,0⟩) (i:=⟨17,k,ad,n,vk,vi,vf⟩) hs (by omega) ⟨h2,h3⟩ h6 (v2 a za') ha;repeat (refine g_ rfl rfl ?_ ?_<;>intro h<;>simp only [nc]at h<;>try omega)
   refine BL hc BM ⟨?_,?_,trivial⟩;rintro ws (⟨v,s3,hv,_,hs3,rfl⟩|⟨_,_,h0,_⟩);rw [J7 (v:=v) (by show (17:Int)<=17;decide) (ht.trans hv)];exact Aa (o_ (x:=pc) (by omega) (by omega)) rfl (IR (s:=s3) rfl hs3 rfl);cases h0;rintro ws (⟨_,_,_,h0,_⟩|⟨e,hv,_,rfl⟩);cases h0;have he:=oa hv;exact Vf (by rw [R0 (e:=e) (by show (17:Int)<=17;decide) (ht.trans hv)];rfl) (by omega) rfl
  .have hop:=h1;unfold Do at hop;have key:∃a b,inn.headD FV.z=a/\inn.getLastD FV.z=b/\Bl 126 NF (KR ⟨pc,rest++inn,mem,us,now,over,0⟩ s++k_ ⟨op,kd,ad,n,vk,vi,vf⟩) (J6 ⟨pc,rest++inn,mem,us,now,over,0⟩ rest (CV op a b)):=(by rcases h3 with ⟨h3,h4⟩|⟨h3,h4⟩;obtain ⟨a,rfl,ha⟩:=X_ (s2.trans h3);exact ⟨a,a,rfl,rfl,sM (i:=⟨op,kd,ad,n,vk,vi,vf⟩) hs (by omega) h1 h4 (v2 a za') ha⟩;obtain ⟨a,b,rfl,ha,hb⟩:=HS (s2.trans h3);exact ⟨a,b,rfl,rfl,uP (i:=⟨op,kd,ad,n,vk,vi,vf⟩) hs (by omega) h1 h4 (v2 a za') (v2 b (zc' _ za')) ha hb⟩);obtain ⟨a,b,ea,eb,hc⟩:=key;have h317:op≠3/\op≠17:=⟨by omega,by omega⟩;have ht:FI ⟨op,kd,ad,n,vk,vi,vf⟩ mem a b=CV op a b:=(by rw [Mr (by show op≠1;omega) (by show op≠2;omega)];exact iu h317.1 h317.2);rw [←ea,←eb]at ht;rw [←ea,←eb]at hc;clear ea eb h1 h2 h3;repeat (refine g_ rfl rfl ?_ ?_<;>intro h<;>simp only [nc]at h<;>try omega)
   refine BL hc BM ⟨?_,?_,trivial⟩;rintro ws (⟨v,s3,hv,_,hs3,rfl⟩|⟨_,_,h0,_⟩);rw [J7 (v:=v) (by show op<=17;omega) (ht.trans hv)];exact Aa (o_ (x:=pc) (by omega) (by omega)) rfl (IR (s:=s3) rfl hs3 rfl);cases h0;rintro ws (⟨_,_,_,h0,_⟩|⟨e,hv,_,rfl⟩);cases h0;have he:e≠0:=(by unfold CV at hv;split at hv;cases hv;rename_i h;cases hv;exact h);exact Vf (by rw [R0 (e:=e) (by show op<=17;omega) (ht.trans hv)];rfl) he rfl
 .rcases hT with ⟨h1,k,h2,h3⟩|⟨h1,h2,h3,h4⟩|⟨h1,h2,h3⟩|⟨h1,h2,q,h3,h4⟩
  .subst h1;obtain ⟨v,rfl,hv⟩:=X_ (s2.trans h2);obtain ⟨c1,c2,c3⟩:=MO _ h3;simp only at c1 c2;obtain ⟨j,rfl⟩:∃j:Nat,ad=(j:Int):=⟨ad.toNat,by omega⟩;have hj:j<mem.length:=(by omega);rw [kI rfl];repeat (refine g_ rfl rfl ?_ ?_<;>intro h<;>simp only [nc]at h<;>try omega)
   refine BL (Gx (m:=⟨pc,rest++[v],mem,us,now,over,0⟩) hs (by omega)) ok0 ⟨?_,trivial⟩;rintro ws ⟨s3,hs3,rfl⟩;refine Aa (A_ mem hj) rfl (Aa (Kw mem hj v) (G_ _) (Aa (o_ (x:=pc) (by omega) (by omega)) rfl (Ea (Sd mem j v) ?_)));exact IR (s:=s3) rfl hs3 rfl
  .subst h1 h2 h3;obtain ⟨v,x,rfl,hv,hx⟩:∃v x,inn=[v,x]/\v.k=2/\(x.k=2\/x.k=3):=by rcases h4 with h4|h4;obtain ⟨v,x,e,h,h'⟩:=HS (s2.trans h4);exact ⟨v,x,e,h,.inl h'⟩;obtain ⟨v,x,e,h,h'⟩:=HS (s2.trans h4);exact ⟨v,x,e,h,.inr h'⟩
   have hs':St ((rest++[v])++[x]) s:=(by rw [List.append_assoc];exact hs);have hq:=XN (i:=⟨19,kd,8,4,vk,vi,vf⟩) (m:=⟨pc,rest++[v,x],mem,used,now,over,0⟩) (rest:=rest) (inn:=[v,x]) rfl;have hq:Ct _ _ _ _=if x.i<0\/4<=x.i then _ else CI _ _ rest (mem.set (8+x.i).toNat v):=hq
   repeat (refine g_ rfl rfl ?_ ?_<;>intro h<;>simp only [nc]at h<;>try omega)
   refine BL (o8 (m:=⟨pc,rest++[v,x],mem,us,now,over,0⟩) (i:=⟨19,kd,8,4,vk,vi,vf⟩) hs' (by simp;omega) rfl rfl) BM ⟨?_,?_,trivial⟩;rintro ws (⟨_,h0,_⟩|⟨hr,_,s3,hs3,rfl⟩);cases h0;have hr:¬(x.i<0\/4<=x.i):=hr;rw [Ab hr]at hq;rw [hq];refine BL (Gx (m:=⟨pc,rest++[v,x],mem,us,now,over,0⟩) hs3 (by omega)) (show Ak (KR _ s3)=true from EJ ⟨pc,rest++[v,x],mem,us,now,over,0⟩ (St.okC hs3)) ⟨?_,trivial⟩;rintro ws ⟨s4,hs4,rfl⟩;obtain ⟨j,hj0⟩:∃j:Nat,8+x.i=(j:Int):=⟨(8+x.i).toNat,by omega⟩;have hj:j<mem.length:=(by omega);have hib:(XOp.inb).run Tryz.prog [c_ mem,.int .i64 (8+x.i)]=some (.int .i64 (j:Int)):=(by rw [hj0];exact A_ mem hj);have hjn:(8+x.i).toNat=j:=(by omega);rw [hjn];refine Aa hib rfl (Aa (Kw mem hj v) (G_ _) (Aa (o_ (x:=pc) (by omega) (by omega)) rfl (Ea (Sd mem j v) ?_)));exact IR (s:=s4) rfl hs4 rfl;rintro ws (⟨hr,_,rfl⟩|⟨_,h0,_⟩);have hr:x.i<0\/4<=x.i:=hr;rw [Ad hr]at hq;exact Vf (by rw [hq];rfl) (by decide) rfl;cases h0
  .subst h1;rw [←s2]at h2 h3;rw [List.length_map]at h3;have hc:=IC_ (m:=⟨pc,rest++inn,mem,us,now,over,0⟩) (i:=⟨22,kd,ad,n,vk,vi,vf⟩) hs (by omega) hm hn h2 h3 v2;rw [oS rfl];repeat (refine g_ rfl rfl ?_ ?_<;>intro h<;>simp only [nc]at h<;>try omega)
   refine BL hc BM ⟨?_,trivial⟩;rintro ws ⟨s3,hs3,rfl⟩;exact Aa (o_ (x:=pc) (by omega) (by omega)) rfl (IR (s:=s3) rfl hs3 rfl)
  .subst h1;obtain ⟨x,rfl,hx⟩:=X_ (s2.trans h2);rw [gk rfl];repeat (refine g_ rfl rfl ?_ ?_<;>intro h<;>simp only [nc]at h<;>try omega)
   refine BL (Gx (m:=⟨pc,rest++[x],mem,us,now,over,0⟩) hs (by omega)) ok0 ⟨?_,trivial⟩;rintro ws ⟨s3,hs3,rfl⟩
   (refine g_ rfl rfl ?_ ?_<;>intro h<;>simp only [nc]at h<;>try omega)
   refine IR (s:=s3) rfl hs3 ?_;show _=KR _ s3++[.int .i64 (if x.i=0 then ad else pc+1)];rw [Ad h];rfl;refine Aa (o_ (x:=pc) (by omega) (by omega)) rfl (IR (s:=s3) rfl hs3 ?_);show _=KR _ s3++[.int .i64 (if x.i=0 then ad else pc+1)];rw [Ab h];rfl
 .subst h20;have hk0:ks=[]:=List.length_eq_zero_iff.1 hks;obtain rfl:=R1 (s2.trans hk0);rw [List.append_nil]at*;rw [gO rfl];repeat (refine g_ rfl rfl ?_ ?_<;>intro h<;>simp only [nc]at h<;>try omega)
  exact IR (s:=s) rfl hs rfl
 .subst h23;have hk0:ks=[]:=List.length_eq_zero_iff.1 hks;obtain rfl:=R1 (s2.trans hk0);rw [List.append_nil]at*;rw [ni rfl];repeat (refine g_ rfl rfl ?_ ?_<;>intro h<;>simp only [nc]at h<;>try omega)
  exact IR (s:=s) rfl hs rfl
def iy:VC:=⟨⟨[],[]⟩,[],[],0,true,[]⟩
def Td:VT:=It Zf [64,64] 65 (.done (.int .u64 9221120237041090561))<|Li (.ext 159) [64] 66<|.done (66)
def nw:VC:=⟨⟨[],[]⟩,[(119,[none])],[],0,true,[]⟩
def V6:VT:=.call 119 [64] 66 [none]<|.call 119 [65] 67 [none]<|Li (.bin .eql 182 false false) [66,67] 68<|.done (68)
def j6:VC:=⟨⟨[],[]⟩,[(89,[none])],[],0,true,[]⟩
def S9:VT:=It Q9 [64,67] 70 (It Qq [65,68] 71 (.call 89 [66,69] 72 [none]<|.done (72))<|Ψ)<|Ψ
def Hp_:VC:=⟨⟨[],[]⟩,[(74,[none]),(119,[none]),(130,[none])],[],0,true,[]⟩
def di:VT:=Iq 64 5 67 (Li Qt [65,J 0] 68<|.done (68))<|.call 74 [64] 68 [none]<|Iq 68 1 69 (.call 119 [66] 70 [none]<|It Ui [70,.int .u64 0] 71 (.call 130 [64,65] 72 [none]<|Li Qq [72,65] 73<|.done (73))<|Ψ)<|Ψ
def sE:Option Nat->Int
 |none=>9221120237041090561
 |some n=>if Cp n=true then 9221120237041090561 else (n:Int)
def rk (n:Nat):(XOp.ext 159).run Tryz.prog [.flt .f64 n]=some (.int .u64 (n:Int)):=by kernel_rfl
def jM (o:Option Nat):AJ 119 [fv o] (.int .u64 (sE o)):=by
 refine Bx [none] [fv o] iy Td rfl (QK o) rfl rfl rfl (by kernel_rfl) λY hf hg=>?_;unfold Td;refine Aa (OE ..) rfl (Ax rfl (λh=>?_) (λh=>?_))
 .rw [TN]at h;refine Ap ?_;cases o with
  |none=>rfl
  |some n=>show AV.int _ _=AV.int _ (if Cp n=true then 9221120237041090561 else (n:Int));exact congrArg (AV.int .u64) (Ad h).symm
 .rw [TN]at h;cases o with
  |none=>cases h
  |some n=>refine Aa (rk n) rfl (Ap ?_);show AV.int _ _=AV.int _ (if Cp n=true then 9221120237041090561 else (n:Int));rw [Ab (by rw [show Cp n=false from h];exact Bool.false_ne_true)]
def zq (o:Option Nat):AJ 89 [fv o,fv o] (.bool true):=by refine Bx [none,none] [fv o,fv o] nw V6 rfl (by simp only [Ak,CY]) rfl rfl rfl (by kernel_rfl) λY hf hg=>?_;unfold V6;exact Aq (jM o) rfl rfl (Aq (jM o) rfl rfl (Aa (Am ..) rfl (Ap (congrArg AV.bool (AD rfl)))))
def nX (v:FV):AJ 48 [.agg (f_ v),.agg (f_ v)] (.bool true):=by
 refine Bx [some 3,some 3] (f_ v++f_ v) j6 S9 rfl (A9.okL_join (BI v) (BI v)) rfl rfl rfl (by kernel_rfl) λY hf hg=>?_;unfold S9
 (refine b_ rfl rfl ?_ ?_<;>intro h<;>try omega)
 (refine b_ rfl rfl ?_ ?_<;>intro h<;>try omega)
 exact Aq (zq v.f) rfl rfl (Ap rfl)
def gK:VC:=⟨⟨[],[]⟩,[(48,[none])],[(0,[⟨[(5,.slx 0 0 0),(1,65),(0,64)],[],0,1,[],[],[]⟩])],0,true,[]⟩
def Fg:VT:=Li Qz [64] 66<|Li Qz [65] 67<|It Qd [66,67] 68 Ψ<|.loop 69 0 [J 0] (.cons 1 (Li Qz [64] 70<|It Q5 [69,70] 71 (Li Qw [64,69] 72<|.lt Zc [72] 73 (some 3)<|Li Qw [65,69] 76<|.lt Zc [76] 77 (some 3)<|.call 48 [.agg [73,74,75],.agg [77,78,79]] 80 [none]<|It Q6 [80] 81 Ψ<|Li Q3 [69,J 1] 82<|.again 0 0 [82])<|Ω) .nil)
def p19 {l:List FV} (hl:l.length<=1000):AJ 19 [c_ l,c_ l] (.bool true):=by
 refine Bx [none,none] [c_ l,c_ l] gK Fg rfl (by simp only [Ak,G_]) rfl rfl rfl (by kernel_rfl) λY hf hg=>?_;unfold Fg;refine Aa (TH l) rfl (Aa (TH l) rfl ?_)
 (refine g_ rfl rfl ?_ ?_<;>intro h<;>simp only [nc]at h<;>try omega)
 refine Dv (ι:=Nat) (λi=>[.int .i64 (i:Int)]) (λi=>i<=l.length) (λi=>l.length-i) 0 (zb' _) rfl (λ_ _=>rfl) (λs s' _ _ h=>by simp at h;omega) (λi hi=>?_);refine Aa (TH l) rfl ?_
 (refine g_ rfl rfl ?_ ?_<;>intro h<;>simp only [nc]at h<;>try omega)
 have hi:i<l.length:=(by omega);refine Aa (Mz l hi) (A9 BI _) (BV (LT l hi) rfl (BI _) ?_);refine Aa (Mz l hi) (A9 BI _) (BV (LT l hi) rfl (BI _) ?_);refine Aq (nX l[i]) rfl rfl (Aa (r:=.bool false) rfl rfl (Ax (t:=false) rfl (λh=>by cases h) (λ_=>?_)));exact Aa (o_ (by omega) (by omega)) rfl (Cb rfl ⟨i+1,hi,rfl,by omega⟩);exact Ap rfl
def xN:VC:=⟨⟨[],[]⟩,[],[],0,true,[]⟩
def ew:VT:=It Zj [64,.nsl] 66 (.done (.agg [J 0,.nsl,.nsl,J 0,65,.bool false,J 0]))<|Li Qe [.vsl 0 3 [],64] 67<|.done (.agg [J 0,.nsl,67,J 0,65,.bool false,J 0])
def s8:VC:=⟨⟨[],[]⟩,[],[],0,true,[]⟩
def lS:VT:=Li Qe [.vsl 0 3 [],64] 66<|.done (.agg [J 0,.nsl,66,J 0,65,.bool false,J 0])
def c38:VC:=⟨⟨[],[]⟩,[(19,[none])],[],0,true,[]⟩
def nU:VT:=It Q9 [64,71] 78 (It Q9 [67,74] 79 (It Qq [68,75] 80 (It G5 [69,76] 81 (It Zv [70,77] 82 (.call 19 [65,72] 83 [none]<|.ite 83 (.call 19 [66,73] 84 [none]<|.done (84))<|Ψ)<|Ψ)<|Ψ)<|Ψ)<|Ψ)<|Ψ
def uk:VC:=⟨⟨[],[]⟩,[],[],0,true,[(42,Ef),(83,YT)]⟩
def Sr:VT:=Cf 42 Ef [66] 73 1<|Cf 42 Ef [67] 75 1<|Li Q3 [68,J 1] 77<|Li Qk [64,65] 78<|.lt Qy [78] 79 (some 7)<|.callF 83 YT ([65,74,76,77,69,70,71]++Ae 79 7) 86 (.cons 8 (Dn ([107]++Ae 101 6)) (.cons 1 (Cf 42 Ef [66] 101 1<|Cf 42 Ef [67] 103 1<|Li Q3 [68,J 1] 105<|Dn [65,102,104,105,69,70,100]) .nil))
def lW:VT:=.ite 70 (Cf 42 Ef [66] 72 1<|Cf 42 Ef [67] 74 1<|Dn [65,73,75,68,69,70,71])<|It Q7 [71,J 0] 72 (Cf 42 Ef [66] 73 1<|Cf 42 Ef [67] 75 1<|Dn [65,74,76,68,69,70,71])<|.both (.both Sr Sr) Sr
def jo {l:List FV} {x y:AV} (hx:St l x) (hy:St l y) (hl:l.length<=1000):AJ 19 [x,y] (.bool true):=by
 refine Bx [none,none] [x,y] gK Fg rfl (by simp only [Ak,St.okC hx,St.okC hy]) rfl rfl rfl (by kernel_rfl) λY hf hg=>?_;unfold Fg;refine Aa (hx.len Tryz.underlying34) rfl (Aa (hy.len Tryz.underlying34) rfl ?_)
 (refine g_ rfl rfl ?_ ?_<;>intro h<;>simp only [nc]at h<;>try omega)
 refine Dv (ι:=Nat) (λi=>[.int .i64 (i:Int)]) (λi=>i<=l.length) (λi=>l.length-i) 0 (zb' _) rfl (λ_ _=>rfl) (λs s' _ _ h=>by simp at h;omega) (λi hi=>?_);refine Aa (hx.len Tryz.underlying34) rfl ?_
 (refine g_ rfl rfl ?_ ?_<;>intro h<;>simp only [nc]at h<;>try omega)
 have hi:i<l.length:=(by omega);have hne:l≠[]:=λe=>(by rw [e]at hi;simp at hi);have ex:x=c_ l:=hx.eq hne;have ey:y=c_ l:=hy.eq hne;have hix:=Mz l hi;have hiy:=hix;rw [←ex]at hix;rw [←ey]at hiy;refine Aa hix (A9 BI _) (BV (LT l hi) rfl (BI _) ?_);refine Aa hiy (A9 BI _) (BV (LT l hi) rfl (BI _) ?_);refine Aq (nX l[i]) rfl rfl (Aa (r:=.bool false) rfl rfl (Ax (t:=false) rfl (λh=>by cases h) (λ_=>?_)));exact Aa (o_ (by omega) (by omega)) rfl (Cb rfl ⟨i+1,hi,rfl,by omega⟩);exact Ap rfl
def Nn (mem:List FV) (now:Int):MS:=⟨0,[],mem,0,now,false,0⟩
def xU {mem:List FV} (hm:Aw mem) (now:Int):AJ 39 [c_ mem,.int .i64 now] (.agg (KR (Nn mem now) .nsl)):=by refine Bx [none,none] [c_ mem,.int .i64 now] xN ew rfl (by simp only [Ak,okC,G_]) (Te (EJ (Nn mem now) rfl)) rfl rfl (by kernel_rfl) λY hf hg=>?_;unfold ew;exact Aa (vj hm) rfl (Ax rfl (λh=>by cases h) (λ_=>Aa (YO hm) (G_ mem) (Ap rfl)))
def wx {mem:List FV} (hm:Aw mem) (now:Int):AJ 40 [c_ mem,.int .i64 now] (.agg (KR (Nn mem now) .nsl)):=by refine Bx [none,none] [c_ mem,.int .i64 now] s8 lS rfl (by simp only [Ak,okC,G_]) (Te (EJ (Nn mem now) rfl)) rfl rfl (by kernel_rfl) λY hf hg=>?_;unfold lS;exact Aa (YO hm) (G_ mem) (Ap rfl)
def qY {m:MS} {x y:AV} (hx:St m.st x) (hy:St m.st y) (hl:m.st.length<=1000) (hm:m.mem.length<=1000):AJ 38 [.agg (KR m x),.agg (KR m y)] (.bool true):=by
 have h1:=jo hx hy hl;have h2:=p19 hm;refine Bx [some 7,some 7] (KR m x++KR m y) c38 nU rfl (Mv m (St.okC hx) (EJ m (St.okC hy))) rfl rfl rfl (by kernel_rfl) λY hf hg=>?_;unfold nU
 (refine g_ rfl rfl ?_ ?_<;>intro h<;>simp only [nc]at h<;>try omega)
 (refine g_ rfl rfl ?_ ?_<;>intro h<;>simp only [nc]at h<;>try omega)
 (refine g_ rfl rfl ?_ ?_<;>intro h<;>simp only [nc]at h<;>try omega)
 refine Aa (r:=.bool true) (by show (XOp.bin .eql 4 false false).run Tryz.prog [.bool m.over,.bool m.over]=_;cases m.over<;>rfl) rfl (Ax (t:=true) rfl (λ_=>?_) (λh=>by cases h))
 (refine g_ rfl rfl ?_ ?_<;>intro h<;>simp only [nc]at h<;>try omega)
 exact Aq h1 rfl rfl (Ax (t:=true) rfl (λ_=>Aq h2 rfl rfl (Ap rfl)) (λh=>by cases h))
def yU {Q:AV->Prop} {L:List (Nat->List AV->Prop)} {Y:Sy} {a:VT} (h:AC Tryz.prog Q L Y a):AC Tryz.prog Q L Y (.both (.both a a) a):=⟨⟨h,h⟩,h⟩
def NJ (m:MS):Nat->List AV->Prop:=λ_ ws=>∃s,St m.st s/\ws=KR m s
def xz (l:List GI) (m:MS) {s:AV} (hs:okC s=true) {r:List AV} (hr:Ak r=true):Ak (h_ l::(KR m s++r))=true:=by rw [CA,okI l];exact Mv m hs hr
def Tn {mem:List FV} (hm:Aw mem) {s:AV} (h:St mem s):s=c_ mem:=SlV.eq h (λe=>by have:=hm.len;rw [e]at this;cases this)
def yG {i:GI} {m:MS} {r n:List FV} (he:m.err=0) (h:(Ct i m r n).err≠0):Ct i m r n=Fr m (Ct i m r n).err:=by
 by_cases h1:i.op<=17
 .rw [Vy h1]at h⊢;cases ht:FI i m.mem (n.headD FV.z) (n.getLastD FV.z)with
  |error e=>rfl
  |ok v=>rw [ht]at h;exact absurd he h
 .by_cases h2:i.op=19;rw [XN h2]at h⊢;split at h;rename_i h3;rw [Ad h3];rfl;exact absurd he h
  .unfold Ct at h;rw [Ab h1,Ab h2]at h;repeat' (split at h)
   all_goals exact absurd he h
def oC {l:List GI} {p:Nat} (h:p<l.length):(XOp.iaddr 30).run Tryz.prog [h_ l,.int .i64 (p:Int)]=some (.vptr (Ay k_ (l.drop p))):=
 Bw (e:=68) (ti:=(Tryz.prog.info? 68).get!) Tryz.underlying30 (by kernel_rfl) (by kernel_rfl) Jj h .i64
def jd {l:List GI} {p:Nat} (h:p<l.length):(XOp.load 68).run Tryz.prog [.vptr (Ay k_ (l.drop p))]=some (.agg (k_ l[p])):=
 Bz (ti:=(Tryz.prog.info? 68).get!) Tryz.underlying68 rfl (by kernel_rfl) (by kernel_rfl) Jj h
def Dw {m:MS} {s:AV} (hs:St m.st s) {hv:List AV} {Y:Sy} {L:List (Nat->List AV->Prop)} (h:An Y.v hv=KR m s):AC Tryz.prog (QF (NJ m)) L Y (.done (.tup (.int .i64 0::hv))):=
 Ai (j:=0) (by rw [h];exact EJ _ (St.okC hs)) ⟨s,hs,h⟩
def wd {l:List GI} {T:List (List Int)} {m:MS} {s:AV} (hG:Av T 0 l) (hn: -9223372036854775808<=m.now/\m.now<=9223372036854775807) (hl:l.length<=400) (hu:0<=m.used/\m.used<=1000000) (hmt:Gh l T m) (hs:St m.st s):
  Bl 41 Y7 (h_ l::KR m s) (NJ (e_ l m)):=by
 obtain ⟨p,i,K,h⟩:=hmt;obtain ⟨hp,hi⟩:=List.getElem?_eq_some_iff.1 h.at_;have hT:=hG p i K h.at_ (by rw [Nat.zero_add];exact h.ty);rw [Nat.zero_add]at hT;have hinst:=h.inst;have hmm:=h.mem;have hst:m.st.length<=40:=by obtain ⟨K0,ks,e,_,h40,_⟩:=hT;have:=congrArg List.length h.st;rw [List.length_map]at this;omega
 have hsm:St m.mem (c_ m.mem):=SlV.of m.mem;have hml:=hmm.len;have c1:=nA hs (by omega);have c2:=nA hsm (by omega);have stuck:Ky m->e_ l m=m:=λh=>oq h;have hpc:=h.pc;have htv:=h.tv;have ks:=h.st;refine B3 uk lW rfl rfl (by kernel_rfl) λY hf hg=>?_;unfold lW;refine Ax (t:=m.over) rfl (λhov=>?_) (λhov=>?_);rw [stuck (.inl hov)];refine BL c1 (by show Ak [s]=true;simp only [Ak,St.okC hs]) ⟨?_,trivial⟩;rintro ws ⟨s3,hs3,rfl⟩;refine BL c2 (by show Ak [c_ m.mem]=true;simp only [Ak,G_]) ⟨?_,trivial⟩;rintro ws ⟨s4,hs4,rfl⟩;obtain rfl:=Tn hmm hs4;exact Dw hs3 rfl
 (refine g_ rfl rfl ?_ ?_<;>intro h<;>simp only [nc]at h<;>try omega)
 rw [stuck (.inr h)];refine BL c1 (by show Ak [s]=true;simp only [Ak,St.okC hs]) ⟨?_,trivial⟩;rintro ws ⟨s3,hs3,rfl⟩;refine BL c2 (by show Ak [c_ m.mem]=true;simp only [Ak,G_]) ⟨?_,trivial⟩;rintro ws ⟨s4,hs4,rfl⟩;obtain rfl:=Tn hmm hs4;exact Dw hs3 rfl;have he:m.err=0:=h;have hstep:e_ l m=Ct i m (m.st.take (m.st.length-d_ i)) (m.st.drop (m.st.length-d_ i)):=by unfold e_;rw [Ab (λhh=>by rcases hh with hh|hh;exact (by rw [hov]at hh;cases hh);exact hh he),hinst]
 refine yU ?_;unfold Sr;refine BL c1 (by show Ak [s]=true;simp only [Ak,St.okC hs]) ⟨?_,trivial⟩;rintro ws ⟨s3,hs3,rfl⟩;refine BL c2 (by show Ak [c_ m.mem]=true;simp only [Ak,G_]) ⟨?_,trivial⟩;rintro ws ⟨s4,hs4,rfl⟩;obtain rfl:=Tn hmm hs4;have hia:=oC hp;rw [←hpc]at hia;have hld:=jd hp;rw [hi]at hld;refine Aa (o_ (x:=m.used) (by omega) (by omega)) rfl (Aa hia (A9 BM _) (BV hld rfl (BM i) ?_));have hc:=qx (m:=m) (i:=i) (T:=T) (p:=p) (m.used+1) hs3 he (by omega) hn (by rw [ks];exact hT) htv hmm;rw [hstep];have hus:=Wq i m (m.st.take (m.st.length-d_ i)) (m.st.drop (m.st.length-d_ i));have hbd:=λh=>yG (i:=i) (r:=m.st.take (m.st.length-d_ i)) (n:=m.st.drop (m.st.length-d_ i)) he h;generalize Ct i m (m.st.take (m.st.length-d_ i)) (m.st.drop (m.st.length-d_ i))=q at*;refine BL hc (Mv ⟨m.pc,m.st,m.mem,m.used+1,m.now,m.over,m.err⟩ (St.okC hs3) (BM i)) ⟨?_,?_,trivial⟩;rintro ws (⟨hq,_,s5,hs5,rfl⟩|⟨_,h0,_⟩);obtain ⟨qpc,qst,qmem,qu,qn,qo,qe⟩:=q;obtain ⟨u1,u2⟩:=hus;simp only at u1 u2 hq hs5;subst u1 u2 hq;refine Dw hs5 ?_;show [_,_,_,_,_,_,AV.int .i64 m.err]=_;rw [he];rfl;cases h0;rintro ws (⟨_,h0,_⟩|⟨hq,_,rfl⟩);cases h0;refine BL c1 (by show Ak [s]=true;simp only [Ak,St.okC hs]) ⟨?_,trivial⟩;rintro ws ⟨s6,hs6,rfl⟩;refine BL c2 (by show Ak [c_ m.mem]=true;simp only [Ak,G_]) ⟨?_,trivial⟩;rintro ws ⟨s7,hs7,rfl⟩;obtain rfl:=Tn hmm hs7;have hb:=hbd hq;refine Aa (o_ (x:=m.used) (by omega) (by omega)) rfl ?_;have hs8:St q.st s6:=(by rw [hb];exact hs6);refine Dw hs8 ?_;rw [hb];rfl
def Ka (l:List GI) (i:GI) (hl:l.length<=1000000):(XOp.app 7 56).run Tryz.prog [h_ l,.agg (k_ i)]=some (h_ (l++[i])):=V3 Jj (by decide) (by decide) l i (by omega)
def Km (l:List GI):(XOp.len 30).run Tryz.prog [h_ l]=some (.int .i64 (l.length:Int)):=SA Tryz.underlying30 l
def bz (l:List GI):Nat->List AV->Prop:=λ_ ws=>ws=[h_ l]
def My (l:List GI):Ak [h_ l]=true:=by simp only [Ak,okI]
def tl (l:List GI) {i:Nat} (hi:i<l.length) (a:Int) (k:IntKind):(XOp.stx 3 7 2).run Tryz.prog [h_ l,.int k (i:Int),.int .i64 a]=some (h_ (l.set i { l[i]with ad:=a })):=
 Eu (ti:=(Tryz.prog.info? 3).get!) Jj hi (p:=[.int .i64 l[i].op,.int .i64 l[i].kd]) (q:=[.int .i64 l[i].ad]) (r:=[.int .i64 l[i].n,.int .i64 l[i].vk,.int .i64 l[i].vi,.flt .f64 l[i].vf]) (xs:=[.int .i64 a]) rfl (.inr ⟨_,_,rfl⟩) (by kernel_rfl) (by kernel_rfl) rfl rfl rfl rfl rfl k
theorem CN_ {α:Type} (a:List α) (x y:α) (b:List α):(a++([x]++b)).set a.length y=a++([y]++b):=by rw [List.set_append_right _ _ (Nat.le_refl _),Nat.sub_self];rfl
theorem Bl' {α:Type} (a:List α) (x:α) (b:List α) (h:a.length<(a++([x]++b)).length):(a++([x]++b))[a.length]=x:=by rw [List.getElem_append_right (Nat.le_refl _)];simp
def Tv (a:List GI) (op:Int) (b:List GI) (t:Int):(XOp.stx 3 7 2).run Tryz.prog [h_ (a++([n_ op 0 0 0]++b)),.int .i64 (a.length:Int),.int .i64 t]=some (h_ (a++([n_ op 0 t 0]++b))):=by
 have h:a.length<(a++([n_ op 0 0 0]++b)).length:=by simp
 rw [tl _ h t .i64,Bl',CN_];rfl
def R4 {Y:Sy} {i j:Nat} {l l':List GI} (h1:Y.v i=some (h_ l)) (h2:Y.v j=some (h_ l')) (h:l.length=l'.length):(Dl.same i j).ok Y:=by
 cases l with
 |nil=>
  cases l' with
  |nil=>exact .inl ⟨h1,h2⟩
  |cons a r=>simp at h
 |cons a r=>
  cases l' with
  |nil=>simp at h
  |cons b q=>have e:r.length=q.length:=(by simpa using h);exact .inr ⟨r.length+1,7,_,_,h1,by rw [h2];show some (AV.vsl (q.length+1) 7 _)=_;rw [e]⟩
def x7 (l:List GI) (x:GS):Ak (h_ l::DQ x)=true:=by rw [CA,okI];exact JL x
def cG (l:List GI) (x:List GS):Ak [h_ l,CK x]=true:=by rw [CA,okI];simp only [Ak,ES];rfl
theorem Yv:∀(b:Nat) (x y:List GS),i_ b (x++y)=i_ b x++i_ (b+(i_ b x).length) y
 |b,[],y=>by simp [i_]
 |b,s::x,y=>by simp only [Bg,i_,Yv _ x y,Bo,Az,Nat.add_assoc]
def yQ (b:Nat) (x:List GS) {i:Nat} (hi:i<x.length):i_ b (x.take (i+1))=i_ b (x.take i)++D_ (b+(i_ b (x.take i)).length) x[i]:=by rw [List.take_succ_eq_append_getElem hi,Yv];simp only [i_,Cg]
def vo (b:Nat) (x:List GS) (i:Nat):(i_ b (x.take i)).length<=(i_ b x).length:=by have:=congrArg List.length (Yv b (x.take i) (x.drop i));rw [List.take_append_drop,List.length_append]at this;omega
def r7:VC:=⟨⟨[],[]⟩,[(99,[none])],[(1,[⟨[(4,.slx 0 0 0),(1,.ptr 0 0),(3,.slx 1 7 1)],[(0,[64,65,66,67,68,69,70,71,72,73])],2,2,[⟨1,7,1,3,none⟩],[],[]⟩])],0,true,[]⟩
def oW:VT:=Iq 64 1 74 (.done (.vsl 1 7 [J 1,70,J 0,J 0,70,71,72]))<|Iq 64 2 75 (.done (.vsl 1 7 [J 2,J 0,68,J 0,J 0,J 0,.flt .f64 0]))<|.loop 76 0 [J 0,.nsl] (.cons 2 (Li Qh [73] 78<|It Q5 [76,78] 79 (Li Qg [73,76] 80<|.lt Qm [80] 81 (some 10)<|.call 99 [.agg (Ae 81 10)] 91 [none]<|Li Qs [77,91] 92<|Li Q3 [76,J 1] 93<|.again 0 0 [93,92])<|Iq 64 3 80 (Li Qs [77,.agg [J 3,J 0,68,69,J 0,J 0,.flt .f64 0]] 81<|.done (81))<|Iq 64 17 81 (Li Qg [73,J 0] 82<|Li Ze [82] 83<|Li Qn [83] 84<|Li Qs [77,.agg [J 17,65,J 0,84,J 0,J 0,.flt .f64 0]] 85<|.done (85))<|Li Qg [73,J 0] 82<|Li Ze [82] 83<|Li Qn [83] 84<|Li Qs [77,.agg [64,84,J 0,J 0,J 0,J 0,.flt .f64 0]] 85<|.done (85)) .nil)
def qd:VC:=⟨⟨[],[]⟩,[(99,[none])],[(1,[⟨[(6,.slx 0 0 0),(3,.ptr 1 0),(0,.slx 2 7 1)],[(1,[65,66,67,68,69,70,71,72,73,74,75,76,77,78,79,80,81,82,83,84,85,86,87,88,89,90,91])],3,2,[⟨2,7,1,0,none⟩],[],[]⟩])],0,true,[(25,FP)]⟩
def i9:VT:=Li Qi [64] 92<|Iq 65 1 93 (.call 99 [.agg (Ae 76 10)] 94 [none]<|Li Qs [64,94] 95<|Iq 66 3 96 (Li Qg [75,J 0] 97<|.lt Qm [97] 98 (some 10)<|.call 99 [.agg (Ae 98 10)] 108 [none]<|.chk (.pos 108)<|Li Qs [95,108] 109<|Li Qs [109,.vsl 1 7 [J 19,J 0,70,71,J 0,J 0,.flt .f64 0]] 110<|Dn [110])<|Li Qs [95,.agg [J 18,J 0,70,J 0,J 0,J 0,.flt .f64 0]] 97<|Dn [97])<|Iq 65 4 94 (.loop 95 0 [J 0,64] (.cons 2 (Li Qh [91] 97<|It Q5 [95,97] 98 (Li Qg [91,95] 99<|.lt Qm [99] 100 (some 10)<|.call 99 [.agg (Ae 100 10)] 110 [none]<|Li Qs [96,110] 111<|Li Q3 [95,J 1] 112<|.again 0 0 [112,111])<|Li Qh [91] 99<|Li Qs [96,.agg [J 22,89,90,99,J 0,J 0,.flt .f64 0]] 100<|Dn [100]) .nil))<|.call 99 [.agg (Ae 76 10)] 95 [none]<|Li Qs [64,95] 96<|Li Qi [96] 97<|Li Qs [96,.agg [J 21,J 0,J 0,J 0,J 0,J 0,.flt .f64 0]] 98<|Cf 25 FP [98,86] 99 1<|Iq 65 3 102 (Li Qs [101,.agg [J 20,J 0,92,J 0,J 0,J 0,.flt .f64 0]] 103<|Li Qi [103] 104<|Li Q2 [103,97] 105<|Li U3 [103,105,104] 106<|.chk (.same 103 106)<|Dn [106])<|Li Zs [87] 103<|Iq 103 0 104 (Li Qi [101] 105<|Li Q2 [101,97] 106<|Li U3 [101,106,105] 107<|.chk (.same 101 107)<|Dn [107])<|Li Qi [101] 105<|Li Qs [101,.agg [J 20,J 0,J 0,J 0,J 0,J 0,.flt .f64 0]] 106<|Li Qi [106] 107<|Li Q2 [106,97] 108<|Li U3 [106,108,107] 109<|.chk (.same 106 109)<|Cf 25 FP [109,87] 110 1<|Li Qi [112] 113<|Li Q2 [112,105] 114<|Li U3 [112,114,113] 115<|.chk (.same 112 115)<|Dn [115]
def rT:VC:=⟨⟨[],[]⟩,[],[(0,[⟨[(5,.slx 0 0 0),(1,65),(0,.slx 0 7 1)],[],1,2,[⟨0,7,1,0,none⟩],[],[]⟩])],0,true,[(56,Mj)]⟩
def lL:VT:=.loop 66 0 [J 0,64] (.cons 2 (Li Zs [65] 68<|It Q5 [66,68] 69 (Li U4 [65,66] 70<|.lt U5 [70] 71 (some 27)<|Cf 56 Mj ([67]++Ae 71 27) 98 1<|Li Q3 [66,J 1] 127<|.again 0 0 [127,126])<|Dn [67]) .nil)
def c9:VC:=⟨⟨[],[]⟩,[],[],0,true,[(25,FP)]⟩
def t9:VT:=Cf 25 FP [.nsl,65] 66 1<|Li Qs [68,.agg [J 23,J 0,J 0,J 0,J 0,J 0,.flt .f64 0]] 69<|Li Qi [69] 70<|It Qb [70,J 400] 71 (.done (.tup [.nsl,J 12]))<|.done (.tup [69,J 0])
def BJ_ (l:List GI) (i:GI) (hl:l.length<=1000000):(XOp.app 7 56).run Tryz.prog [h_ l,.vsl 1 7 (k_ i)]=some (h_ (l++[i])):=mR (enc:=k_) Jj (by decide) (by decide) l [i] (by simp only [List.length_cons,AK];omega)
def Rm (l q:List GI) (hl:l.length+q.length<=1000000):(XOp.app 7 56).run Tryz.prog [h_ l,h_ q]=some (h_ (l++q)):=mR Jj (by decide) (by decide) l q (by omega)
def bI:∀(d:Nat) (x:GX),d<=10->TX d x->AJ 99 [.agg (x_ x)] (h_ (l_ x))
 |0,_,_,h=>h.elim
 |d+1,.mk op kd nm fd ad n vk vi vf ag,hd,hx=>by
  have hge:=TW hx;have hp:2^(d+1)<=2^10:=Nat.pow_le_pow_right (by decide) hd;have hgl:(l_ (.mk op kd nm fd ad n vk vi vf ag)).length=(s_ ag).length+1:=(by simp only [l_,Az,List.length_cons,AK]);obtain ⟨h1,_,_,_,_,h6⟩:=hx;have hal:ag.length<=2:=(by unfold Dq at h1;omega);have hE:∀i,(s_ (ag.take i)).length<=(s_ ag).length:=λi=>(by have:=congrArg List.length (PF (ag.take i) (ag.drop i));rw [List.take_append_drop,List.length_append]at this;omega);refine Bx [some 10] (x_ (.mk op kd nm fd ad n vk vi vf ag)) r7 oW rfl (Cw _) (L6 (okI _)) rfl rfl (by kernel_rfl) λY hf hg=>?_;unfold oW
  (refine g_ rfl rfl ?_ ?_<;>intro h<;>simp only [nc]at h<;>try omega)
  .obtain rfl:ag=[]:=by
     cases ag with
     |nil=>rfl
     |cons a r=>unfold Dq at h1;simp only [List.length_cons]at h1;omega
   subst h;exact Ap rfl
  (refine g_ rfl rfl ?_ ?_<;>intro h<;>simp only [nc]at h<;>try omega)
  .obtain rfl:ag=[]:=by
     cases ag with
     |nil=>rfl
     |cons a r=>unfold Dq at h1;simp only [List.length_cons]at h1;omega
   subst h;exact Ap rfl
  refine Dv (ι:=Nat) (λi=>[.int .i64 (i:Int),h_ (s_ (ag.take i))]) (λi=>i<=ag.length) (λi=>ag.length-i) 0 (zb' _) (by simp [s_];rfl) (λi _=>by simp only [Ak,okC,okI]) (λi j _ _ h=>by simp at h;omega) (λi hi=>?_);refine Aa (U_ ag) rfl ?_
  (refine g_ rfl rfl ?_ ?_<;>intro h<;>simp only [nc]at h<;>try omega)
  have hi:i<ag.length:=(by omega);have hld:=MF ag hi;have hg:s_ (ag.take (i+1))=s_ (ag.take i)++l_ ag[i]:=(by rw [List.take_succ_eq_append_getElem hi,PF];simp only [s_,Cg]);have hz:=bI d ag[i] (by omega) (h6 _ (zd' hi));have hl:(s_ (ag.take i)).length+(l_ ag[i]).length<=1000000:=(by have:=hE (i+1);rw [hg,List.length_append]at this;omega);rcases hzz:ag[i]with ⟨zo,zk,znm,zfd,zad,zn,zvk,zvi,zvf,za⟩;rw [hzz]at hld hz hg hl;refine Aa (ME ag hi) (A9 Cw _) (BV hld rfl (Cw _) (Aq hz rfl (by simp only [Ak,okI]) (Aa (Rm _ _ hl) (okI _) ?_)));exact Aa (o_ (by omega) (by omega)) rfl (Cb rfl ⟨i+1,hi,by rw [hg];rfl,by omega⟩);have hi:i=ag.length:=(by omega);subst hi;rw [List.take_length];have hlen:(s_ ag).length<=1000000:=(by omega);have fin:∀i:GI,N_ op kd ad n vk vi vf ag=i->h_ (s_ ag++[i])=h_ (l_ (.mk op kd nm fd ad n vk vi vf ag)):=λi hi=>by simp only [l_,hi]
  (refine g_ rfl rfl ?_ ?_<;>intro h<;>simp only [nc]at h<;>try omega)
  exact Aa (Ka _ (n_ 3 0 ad n) hlen) (okI _) (Ap (fin _ (by unfold N_;rw [Ab (by omega),Ab (by omega),Ad h])));have h0:1<=ag.length:=(by unfold Dq at h1;omega);obtain ⟨y,r,rfl⟩:∃y r,ag=y::r:=by
   cases ag with
   |nil=>simp at h0
   |cons y r=>exact ⟨y,r,rfl⟩
  obtain ⟨y1,y2,y3,y4,y5,y6,y7,y8,y9,y10⟩:=y
  (refine g_ rfl rfl ?_ ?_<;>intro h<;>simp only [nc]at h<;>try omega)
  refine Aa (r:=.vptr (x_ (.mk y1 y2 y3 y4 y5 y6 y7 y8 y9 y10)++GT r)) rfl (by show Ak _=true;exact A9.okL_join (Cw _) (Kq _)) ?_;refine Aa (r:=.vptr ([.int .i64 y2,.str y3,.str y4,.int .i64 y5,.int .i64 y6,.int .i64 y7,.int .i64 y8,.flt .f64 y9,De y10]++GT r)) rfl (by show Ak _=true;exact A9.okL_join (by simp only [okC,Ak,Eg]) (Kq _)) (Aa (r:=.int .i64 y2) rfl rfl ?_);exact Aa (Ka _ (n_ 17 kd 0 y2) hlen) (okI _) (Ap (fin _ (by unfold N_;rw [Ab (by omega),Ab (by omega),Ab (by omega),Ad (by assumption)];rfl)));refine Aa (r:=.vptr (x_ (.mk y1 y2 y3 y4 y5 y6 y7 y8 y9 y10)++GT r)) rfl (by show Ak _=true;exact A9.okL_join (Cw _) (Kq _)) ?_;refine Aa (r:=.vptr ([.int .i64 y2,.str y3,.str y4,.int .i64 y5,.int .i64 y6,.int .i64 y7,.int .i64 y8,.flt .f64 y9,De y10]++GT r)) rfl (by show Ak _=true;exact A9.okL_join (by simp only [okC,Ak,Eg]) (Kq _)) (Aa (r:=.int .i64 y2) rfl rfl ?_);exact Aa (Ka _ (n_ op y2 0 0) hlen) (okI _) (Ap (fin _ (by unfold N_;rw [Ab (by omega),Ab (by omega),Ab (by omega),Ab (by assumption)];rfl)))
def WF {x:GX} (h:TX 5 x):AJ 99 [.agg (x_ x)] (h_ (l_ x)):=bI 5 x (by decide) h
def tU {Y:Sy} {i:Nat} {l:List GI} (h:Y.v i=some (h_ l)) (hl:0<l.length):(Dl.pos i).ok Y:=by
 cases l with
 |nil=>simp at hl
 |cons a r=>exact ⟨_,_,_,h⟩
def zT (x:GX):0<(l_ x).length:=by cases x;simp [l_]
def UT (d:Nat):Prop:=∀(x:List GS) (l:List GI),x.length<=5->(∀s∈x,TS d s)->l.length+(i_ l.length x).length<=900000->Bl 25 FP [h_ l,CK x] (bz (l++i_ l.length x))
def p56 (d:Nat) (hT:∀e,d=e+1->UT e):∀(s:GS) (l:List GI),TS d s->l.length+(D_ l.length s).length<=900000->Bl 56 Mj (h_ l::DQ s) (bz (l++D_ l.length s)):=by
 intro s l hs hl;rcases d with _|d;exact hs.elim;have hT:=hT d rfl;obtain ⟨op,to,e,thn,els,nm,kd,ad,ag⟩:=s;obtain ⟨gl,hgl⟩:∃gl,gl=D_ l.length (.mk op to e thn els nm kd ad ag):=⟨_,rfl⟩;rw [←hgl]at hl⊢;obtain ⟨c,hc⟩:∃c,c=l_ e:=⟨_,rfl⟩;obtain ⟨to1,to2,to3,to4,to5,to6,to7,to8,to9,to10⟩:=to;obtain ⟨e1,e2,e3,e4,e5,e6,e7,e8,e9,e10⟩:=e;refine B3 qd i9 rfl rfl (by kernel_rfl) λY hf hg=>?_;unfold i9;refine Aa (Km _) rfl ?_;rcases hs with ⟨rfl,a1,a2,a3,a4,_⟩|⟨ho,b1,b2,b3,b4,b5,b6⟩|⟨rfl,c1,c2,_⟩
 .have hk:=bI 6 _ (by decide) a3;rw [←hc]at hk;have hgen:gl=c++FQ (.mk to1 to2 to3 to4 to5 to6 to7 to8 to9 to10):=(by rw [hgl,hc];simp [D_]);subst hgen;clear hgl;simp only [GX.op]at a2;simp only [FQ]at hl⊢;rw [List.length_append]at hl
  (refine g_ rfl rfl ?_ ?_<;>intro h<;>simp only [nc]at h<;>try omega)
  refine Aq hk rfl (by simp only [Ak,okI]) (Aa (Rm _ _ (by omega)) (okI _) ?_)
  (refine g_ rfl rfl ?_ ?_<;>intro h<;>simp only [nc]at h<;>try omega)
  .rw [Ad h]at hl⊢;have hw:=a1.1;obtain ⟨y,rfl⟩:∃y,to10=[y]:=by
    cases to10 with
    |nil=>unfold Dq at hw;simp only [AK]at hw;omega
    |cons y r=>
     cases r with
     |nil=>exact ⟨y,rfl⟩
     |cons z r=>unfold Dq at hw;simp only [List.length_cons]at hw;omega
   have hy:=WF (Wn (by decide) (a1.2.2.2.2.2 y (za' ..)));have hpos:=zT y;simp only [s_,Cg,Az,List.length_cons,AK]at hl⊢;have hld:=MF [y] (i:=0) (by simp);obtain ⟨gy,hgy⟩:∃gy,gy=l_ y:=⟨_,rfl⟩;rw [←hgy]at hl hy hpos⊢;obtain ⟨y1,y2,y3,y4,y5,y6,y7,y8,y9,y10⟩:=y;refine Aa (ME [_] (i:=0) (by simp)) (A9 Cw _) (BV hld rfl (Cw _) (Aq hy rfl (by simp only [Ak,okI]) (Ea (tU rfl hpos) ?_)));refine Aa (Rm _ _ (by simp only [Az];omega)) (okI _) (Aa (BJ_ _ (n_ 19 0 to5 to6) (by simp only [Az];omega)) (okI _) (Ai (My _) ?_));exact congrArg (λz=>[h_ z]) (by simp only [Bo])
  rw [Ab h]at hl⊢;simp only [List.length_cons,AK]at hl;refine Aa (Ka _ (n_ 18 0 to5 0) (by simp only [Az];omega)) (okI _) (Ai (My _) ?_);exact congrArg (λz=>[h_ z]) (ze' ..)
 .have hk:=WF b1;rw [←hc]at hk;obtain ⟨t,ht⟩:∃t,t=i_ (l.length+c.length+1) thn:=⟨_,rfl⟩;obtain ⟨q,hq⟩:∃q,q=i_ (l.length+c.length+1+t.length+1) els:=⟨_,rfl⟩;have hlc:l.length+c.length+1+t.length<=900000:=by
   rcases ho with rfl|rfl
   .have hgen:gl=if els=[]then c++[n_ 21 0 ((l.length+c.length+1+t.length:Nat):Int) 0]++t else c++[n_ 21 0 ((l.length+c.length+1+t.length+1:Nat):Int) 0]++t++[n_ 20 0 ((l.length+c.length+1+t.length+1+q.length:Nat):Int) 0]++q:=by rw [hgl,hq,ht,hc];simp [D_]
    rw [hgen]at hl;split at hl<;>simp only [Az,List.length_cons,AK]at hl<;>omega
   have hgen:gl=c++[n_ 21 0 ((l.length+c.length+1+t.length+1:Nat):Int) 0]++t++[n_ 20 0 (l.length:Int) 0]:=(by rw [hgl,ht,hc];simp [D_]);rw [hgen]at hl;simp only [Az,List.length_cons,AK]at hl;omega
  have k3:=hT thn (l++c++[n_ 21 0 0 0]) b3 b5 (by simp only [Az,List.length_cons,AK,Cu];rw [←ht];omega);have e0:(l++c++[n_ 21 0 0 0]).length=l.length+c.length+1:=(by simp only [Az,List.length_cons,AK]);rw [e0,←ht,Bo (l++c)]at k3;have hlc1:(l++c).length=l.length+c.length:=Az
  (refine g_ rfl rfl ?_ ?_<;>intro h<;>simp only [nc]at h<;>try omega)
  (refine g_ rfl rfl ?_ ?_<;>intro h<;>simp only [nc]at h<;>try omega)
  refine Aq hk rfl (by simp only [Ak,okI]) (Aa (Rm _ _ (by omega)) (okI _) (Aa (Km _) rfl (Aa (Ka _ (n_ 21 0 0 0) (by omega)) (okI _) ?_)));refine a_ k3 rfl (cG _ _) ⟨?_,trivial⟩;rintro ws rfl
  (refine g_ rfl rfl ?_ ?_<;>intro h<;>simp only [nc]at h<;>try omega)
  have h3:op=3:=h;subst h3;have hgen:gl=c++[n_ 21 0 ((l.length+c.length+1+t.length+1:Nat):Int) 0]++t++[n_ 20 0 (l.length:Int) 0]:=(by rw [hgl,ht,hc];simp [D_]);subst hgen;have e2:l++c++([n_ 21 0 0 0]++t)++[n_ 20 0 (l.length:Int) 0]=l++c++([n_ 21 0 0 0]++(t++[n_ 20 0 (l.length:Int) 0])):=(by simp only [Bo]);have ka:=Ka (l++c++([n_ 21 0 0 0]++t)) (n_ 20 0 (l.length:Int) 0) (by simp only [Az,List.length_cons,AK];omega);rw [e2]at ka;refine Aa ka (okI _) (Aa (Km _) rfl (Aa (OR (i:=(l++c).length) (by simp) .i64) rfl (Aa (Tv (l++c) 21 (t++[n_ 20 0 (l.length:Int) 0]) _) (okI _) (Ea (R4 rfl rfl (by simp)) (Ai (My _) ?_)))));refine congrArg (λz=>[h_ z]) ?_;simp only [Bo,Az,List.length_cons,AK];have x1:l.length+(c.length+(0+1+(t.length+(0+1))))=l.length+c.length+1+t.length+1:=(by omega);rw [x1];have h2:op=2:=(by omega);subst h2;have hgen:gl=if els=[]then c++[n_ 21 0 ((l.length+c.length+1+t.length:Nat):Int) 0]++t else c++[n_ 21 0 ((l.length+c.length+1+t.length+1:Nat):Int) 0]++t++[n_ 20 0 ((l.length+c.length+1+t.length+1+q.length:Nat):Int) 0]++q:=by rw [hgl,hq,ht,hc];simp [D_]
  subst hgen;refine Aa (Xl els) rfl ?_
  (refine g_ rfl rfl ?_ ?_<;>intro h<;>simp only [nc]at h<;>try omega)
  .have hne:els=[]:=by
     cases els with
     |nil=>rfl
     |cons a r=>simp at h;omega
   rw [Ad hne];refine Aa (Km _) rfl (Aa (OR (i:=(l++c).length) (by simp) .i64) rfl (Aa (Tv (l++c) 21 t _) (okI _) (Ea (R4 rfl rfl (by simp)) (Ai (My _) ?_))));refine congrArg (λz=>[h_ z]) ?_;simp only [Bo,Az,List.length_cons,AK];have x1:l.length+(c.length+(0+1+t.length))=l.length+c.length+1+t.length:=(by omega);rw [x1]
  have hne:els≠[]:=λe=>(by subst e;simp at h);rw [Ab hne]at hl⊢;simp only [Az,List.length_cons,AK]at hl;have e2:l++c++([n_ 21 0 0 0]++t)++[n_ 20 0 0 0]=l++c++([n_ 21 0 0 0]++(t++[n_ 20 0 0 0])):=(by simp only [Bo]);have ka:=Ka (l++c++([n_ 21 0 0 0]++t)) (n_ 20 0 0 0) (by simp only [Az,List.length_cons,AK];omega);rw [e2]at ka;refine Aa (Km _) rfl (Aa ka (okI _) ?_);refine Aa (Km _) rfl (Aa (OR (i:=(l++c).length) (by simp) .i64) rfl (Aa (Tv (l++c) 21 (t++[n_ 20 0 0 0]) _) (okI _) (Ea (R4 rfl rfl (by simp)) ?_)));have e5':(l++c++([n_ 21 0 0 0]++(t++[n_ 20 0 0 0]))).length=l.length+c.length+1+t.length+1:=(by simp only [Az,List.length_cons,AK];omega);have k5:=hT els (l++c++([n_ 21 0 ((l++c++([n_ 21 0 0 0]++(t++[n_ 20 0 0 0]))).length:Int) 0]++(t++[n_ 20 0 0 0]))) b4 b6 (by simp only [Az,List.length_cons,AK];rw [show l.length+c.length+(0+1+(t.length+(0+1)))=l.length+c.length+1+t.length+1 by omega,←hq];omega);have e6':(l++c++([n_ 21 0 ((l++c++([n_ 21 0 0 0]++(t++[n_ 20 0 0 0]))).length:Int) 0]++(t++[n_ 20 0 0 0]))).length=l.length+c.length+1+t.length+1:=(by simp only [Az,List.length_cons,AK];omega);rw [e6',←hq]at k5;have e7':l++c++([n_ 21 0 ((l++c++([n_ 21 0 0 0]++(t++[n_ 20 0 0 0]))).length:Int) 0]++(t++[n_ 20 0 0 0]))++q=(l++c++([n_ 21 0 ((l++c++([n_ 21 0 0 0]++(t++[n_ 20 0 0 0]))).length:Int) 0]++t))++([n_ 20 0 0 0]++q):=(by simp only [Bo]);rw [e7']at k5;refine a_ k5 rfl (cG _ _) ⟨?_,trivial⟩;rintro ws rfl;have e8':(((l++c++([n_ 21 0 0 0]++t)).length:Nat):Int)=(((l++c++([n_ 21 0 ((l++c++([n_ 21 0 0 0]++(t++[n_ 20 0 0 0]))).length:Int) 0]++t)).length:Nat):Int):=(by simp only [Az,List.length_cons,AK]);refine Aa (Km _) rfl (Aa (r:=.int .i64 (((l++c++([n_ 21 0 ((l++c++([n_ 21 0 0 0]++(t++[n_ 20 0 0 0]))).length:Int) 0]++t)).length:Nat):Int)) (by rw [←e8'];exact OR (i:=(l++c++([n_ 21 0 0 0]++t)).length) (by simp) .i64) rfl (Aa (Tv _ 20 q _) (okI _) (Ea (R4 rfl rfl (by simp)) (Ai (My _) ?_))));refine congrArg (λz=>[h_ z]) ?_;rw [e5'];simp only [Bo,Az,List.length_cons,AK];have x1:l.length+(c.length+(0+1+(t.length+(0+1+q.length))))=l.length+c.length+1+t.length+1+q.length:=(by omega);rw [x1]
 .have hgen:gl=s_ ag++[n_ 22 kd ad (ag.length:Int)]:=(by rw [hgl];simp [D_]);subst hgen;clear hgl;simp only [Az,List.length_cons,AK]at hl;have hal:ag.length<=2:=(by rcases c1 with ⟨_,_,c1⟩|⟨_,_,c1⟩|⟨_,_,c1⟩<;>(have:=congrArg List.length c1;simp at this;omega));have hE:∀i,(s_ (ag.take i)).length<=(s_ ag).length:=λi=>by have:=congrArg List.length (PF (ag.take i) (ag.drop i));rw [List.take_append_drop,List.length_append]at this;omega
  (refine g_ rfl rfl ?_ ?_<;>intro h<;>simp only [nc]at h<;>try omega)
  (refine g_ rfl rfl ?_ ?_<;>intro h<;>simp only [nc]at h<;>try omega)
  refine Dv (ι:=Nat) (λi=>[.int .i64 (i:Int),h_ (l++s_ (ag.take i))]) (λi=>i<=ag.length) (λi=>ag.length-i) 0 (zb' _) (by simp [s_];rfl) (λi _=>by simp only [Ak,okC,okI]) (λi j _ _ h=>by simp at h;omega) (λi hi=>?_);refine Aa (U_ ag) rfl ?_
  (refine g_ rfl rfl ?_ ?_<;>intro h<;>simp only [nc]at h<;>try omega)
  have hi:i<ag.length:=(by omega);have hld:=MF ag hi;have hg:s_ (ag.take (i+1))=s_ (ag.take i)++l_ ag[i]:=(by rw [List.take_succ_eq_append_getElem hi,PF];simp only [s_,Cg]);have hz:=WF (c2 _ (zd' hi));have hl2:(l++s_ (ag.take i)).length+(l_ ag[i]).length<=1000000:=(by have:=hE (i+1);rw [hg,List.length_append]at this;rw [List.length_append];omega);rcases hzz:ag[i]with ⟨zo,zk,znm,zfd,zad,zn,zvk,zvi,zvf,za⟩;rw [hzz]at hld hz hg hl2;refine Aa (ME ag hi) (A9 Cw _) (BV hld rfl (Cw _) (Aq hz rfl (by simp only [Ak,okI]) (Aa (Rm _ _ hl2) (okI _) ?_)));refine Aa (o_ (by omega) (by omega)) rfl (Cb rfl ⟨i+1,hi,?_,by omega⟩);rw [hg,←List.append_assoc];rfl;have hi:i=ag.length:=(by omega);subst hi;rw [List.take_length];refine Aa (U_ ag) rfl (Aa (Ka _ (n_ 22 kd ad (ag.length:Int)) (by rw [List.length_append];omega)) (okI _) (Ai (My _) ?_));exact congrArg (λz=>[h_ z]) (ze' ..)
def lH (d:Nat) (hT:∀e,d=e+1->UT e):UT d:=by
 intro x l hx5 hx hl;refine B3 rT lL rfl rfl (by kernel_rfl) λY hf hg=>?_;unfold lL;refine Dv (ι:=Nat) (λi=>[.int .i64 (i:Int),h_ (l++i_ l.length (x.take i))]) (λi=>i<=x.length) (λi=>x.length-i) 0 (zb' _) (by simp [i_];rfl) (λi _=>by simp only [Ak,okC,okI]) (λi j _ _ h=>by simp at h;omega) (λi hi=>?_);refine Aa (Xl x) rfl ?_
 (refine g_ rfl rfl ?_ ?_<;>intro h<;>simp only [nc]at h<;>try omega)
 have hi:i<x.length:=(by omega);have hg:=yQ l.length x hi;have hle:=vo l.length x (i+1);have hz:=p56 d hT x[i] (l++i_ l.length (x.take i)) (hx _ (zd' hi)) (by rw [hg,List.length_append]at hle;rw [List.length_append];omega);have hld:=js x hi;rw [List.length_append]at hz;rcases hzz:x[i]with ⟨z1,⟨a1,a2,a3,a4,a5,a6,a7,a8,a9,a10⟩,⟨b1,b2,b3,b4,b5,b6,b7,b8,b9,b10⟩,z4,z5,z6,z7,z8,z9⟩;rw [hzz]at hld hz hg;refine Aa (ci x hi) (A9 JL _) (BV hld rfl (JL _) ?_);refine a_ hz rfl (x7 _ _) ⟨?_,trivial⟩;rintro ws rfl;refine Aa (o_ (by omega) (by omega)) rfl (Cb rfl ⟨i+1,hi,?_,by omega⟩);rw [hg,←List.append_assoc];rfl;have hi:i=x.length:=(by omega);subst hi;rw [List.take_length];exact Ai (My _) rfl
def iz:∀d,UT d
 |0=>lH 0 λe h=>by omega
 |d+1=>lH (d+1) λe h=>by have:d=e:=(by omega);subst this;exact iz d
def p9 {d:Nat} {v:AV} (hv:okC v=true) {x:List GS} (h5:x.length<=5) (hx:∀s∈x,TS d s) (hl:(i_ 0 x).length<=900000):AJ 9 [.agg [v,CK x]] (O9 x):=by
 have h:Bl 25 FP [.nsl,CK x] (bz (i_ 0 x)):=iz d x [] h5 hx (by simpa using hl);refine Bx [some 2] [v,CK x] c9 t9 rfl (by simp only [Ak,hv,ES]) (ro x) rfl rfl (by kernel_rfl) λY hf hg=>?_;unfold t9;refine a_ h rfl (by simp only [Ak,okC,ES]) ⟨?_,trivial⟩;rintro ws rfl;refine Aa (Ka _ (n_ 23 0 0 0) (by omega)) (okI _) (Aa (Km _) rfl ?_);have hg:i_ 0 x++[n_ 23 0 0 0]=q_ x:=rfl;rw [hg]
 (refine g_ rfl rfl ?_ ?_<;>intro h<;>simp only [nc]at h<;>try omega)
 refine Ap ?_;unfold O9 pl pe;rw [Ab (by omega),Ab (by omega)];rfl;refine Ap ?_;unfold O9 pl pe;rw [Ad (by omega),Ad (by omega)];rfl
def ot {α:Type} {enc:α->List AV} {p:List AV->Prop} {q:α->Prop} (h:∀r,p r->∃a,r=enc a/\q a):∀rows:List (List AV),(∀r,r∈rows->p r)->∃l:List α,rows.flatten=Ay enc l/\l.length=rows.length/\∀a,a∈l->q a
 |[],_=>⟨[],rfl,rfl,λa h=>by cases h⟩
 |r::rows,hr=>by obtain ⟨a,rfl,ha⟩:=h r (hr r (za' ..));obtain ⟨l,h1,h2,h3⟩:=ot h rows λr h=>hr r (zc' _ h);refine ⟨a::l,by rw [List.flatten_cons,h1];rfl,by simp [h2],λb hb=>?_⟩;rcases List.mem_cons.1 hb with rfl|hb;exact ha;exact h3 b hb
def uj {r:List AV} (h:Sx.Fit Tryz.prog 5 r):∃c:UInt8,r=F6 c/\True:=by
 obtain ⟨n,rfl,hn⟩:=xT Tryz.underlying5 h;have hn:0<=n/\n<=255:=by simpa [Lit.wf,IntKind.min,IntKind.max,IntKind.bits,IntKind.signed]using hn
 refine ⟨n.toNat.toUInt8,?_,trivial⟩;have:((n.toNat.toUInt8).toNat:Int)=n:=by have h1:n.toNat.toUInt8.toNat=n.toNat:=(by simp only [Nat.toUInt8,UInt8.toNat_ofNat'];omega);rw [h1];omega
 unfold F6;rw [this]
def arg_u8s {H:Type} {enc:TypeId×Value->H} {W:World} {base:Nat} {v:Value} {dd:DataW H} {p ps:List MemPlace} (hok:Value.okWide Tryz.prog W .any base 22 v)
  (h:DataW.Trod enc Tryz.prog W 0 (λ_=>true) true 22 v dd p) (hps:∀q,q∈p->q∈ps):∃(l:List UInt8) (a:AV),SlV F6 1 l a/\True/\l.length<=maxLen/\Ac (JF (G2 W ps)) a v:=by
 rcases v8 (d:=5) Tryz.underlying22 (by kernel_rfl) hok h hps with rfl|⟨rows,h1,h2,h3,h4⟩;exact ⟨[],.nsl,.inr ⟨rfl,rfl⟩,trivial,zb' _,by simp only [Ac]⟩;obtain ⟨l,k1,k2,k3⟩:=ot (enc:=F6) (q:=λ_=>True) (λr hr=>uj hr) rows h1;have hc:Tryz.prog.cellsOf 5=1:=(by kernel_rfl);refine ⟨l,Ba F6 1 l,.inl rfl,trivial,by omega,?_⟩;have h4':=h4;rw [k1,hc,←k2]at h4';exact h4'
end Go.Proofs.YtelnbodnjmldeaaGreat.vars
