/-
  Blocks' steps: the program's.
-/
import Derived.Test.YtelnbodnjmldeaaGreatWI
import Derived.Test.YtelnbodnjmldeaaGreatFA
import Derived.Test.YtelnbodnjmldeaaGreatSyK
import Derived.Test.YtelnbodnjmldeaaGreatWD
set_option linter.all false
set_option maxHeartbeats 1000000
set_option maxRecDepth 100000
open Nat renaming zero_le→za'
open List renaming getElem_mem→zb'
namespace Go.Proofs.YtelnbodnjmldeaaGreat.vars
open Go Go.Sx
def uo:VC:=⟨⟨[],[]⟩,[],[],0,true,[]⟩
def nE:VT:=.ite 64 (.done (.agg [J 1,J 1,.flt .f64 0]))<|.done (.agg [J 1,J 0,.flt .f64 0])
def tQ:VC:=⟨⟨[],[]⟩,[],[],0,true,[]⟩
def gj:VT:=.ite 64 (.done (.agg [J 1,J 1,.flt .f64 0]))<|.done (.agg [J 1,J 0,.flt .f64 0])
def qq:VC:=⟨⟨[],[]⟩,[(213,[(some 3)])],[],1,true,[]⟩
def dc:VT:=Li Q9 [100,J 1] 130<|It Q6 [130] 131 (Dn (Af 100 12))<|Li Q9 [103,J 4] 132<|It Q6 [132] 133 (Dn (Af 100 12))<|Li Q9 [106,J 1] 134<|It Q6 [134] 135 (Dn (Af 100 12))<|Li Q9 [109,J 4] 136<|It Q6 [136] 137 (Dn (Af 100 12))<|Li Qc [101,J 0] 138<|Li Qc [107,J 0] 139<|Li (.mm true) [128,J 0] 140<|It Q6 [127] 141 (Dn [J 1,J 0,.flt .f64 0,J 4,J 0,.flt .f64 0,J 1,J 0,.flt .f64 0,J 4,J 0,.flt .f64 0])<|It Q6 [139] 142 (It G3 [129,129] 143 (Li Z0 [129] 144<|Li Z0 [129] 145<|Li U0 [144,145] 146<|Li Z0 [140] 147<|Li U1 [146,147] 148<|Li U2 [148] 149<|Li Qq [149,140] 150<|.call 213 [150] 151 [(some 3)]<|.call 213 [.bool true] 154 [(some 3)]<|Dn [151,152,153,J 4,149,.flt .f64 0,154,155,156,J 4,129,.flt .f64 0])<|Li Qq [J 0,140] 144<|.call 213 [144] 145 [(some 3)]<|.call 213 [.bool true] 148 [(some 3)]<|Dn [145,146,147,J 4,J 0,.flt .f64 0,148,149,150,J 4,129,.flt .f64 0])<|It G3 [129,110] 143 (Li Z0 [129] 144<|Li Z0 [110] 145<|Li U0 [144,145] 146<|Li Z0 [140] 147<|Li U1 [146,147] 148<|Li U2 [148] 149<|Li Qq [149,140] 150<|.call 213 [150] 151 [(some 3)]<|.call 213 [139] 154 [(some 3)]<|Dn [151,152,153,J 4,149,.flt .f64 0,154,155,156,J 4,110,.flt .f64 0])<|Li Qq [J 0,140] 144<|.call 213 [144] 145 [(some 3)]<|.call 213 [139] 148 [(some 3)]<|Dn [145,146,147,J 4,J 0,.flt .f64 0,148,149,150,J 4,110,.flt .f64 0]
def vD:VC:=⟨⟨[],[]⟩,[(215,[(some 3)])],[],1,true,[]⟩
def fK:VT:=Li Q9 [112,J 1] 129<|It Q6 [129] 130 (Dn (Af 112 9))<|Li Q9 [115,J 2] 131<|It Q6 [131] 132 (Dn (Af 112 9))<|Li Q9 [118,J 1] 133<|It Q6 [133] 134 (Dn (Af 112 9))<|.ite 127 (It Qt [119,J 0] 135 (Li G4 [116,J 1] 136<|Li U1 [136,J 32767] 137<|Li Qu [137,128] 138<|.call 215 [138] 139 [(some 3)]<|.call 215 [.bool true] 142 [(some 3)]<|Dn [139,140,141,J 2,137,.flt .f64 0,142,143,144])<|Li Qu [116,128] 136<|.call 215 [136] 137 [(some 3)]<|.call 215 [.bool true] 140 [(some 3)]<|Dn [137,138,139,J 2,116,.flt .f64 0,140,141,142])<|Li Qu [116,128] 135<|.call 215 [135] 136 [(some 3)]<|.call 215 [.bool false] 139 [(some 3)]<|Dn [136,137,138,J 2,116,.flt .f64 0,139,140,141]
def uv:VC:=⟨⟨[],[]⟩,[(215,[(some 3)])],[],1,true,[]⟩
def nw:VT:=Li Q9 [121,J 1] 129<|It Q6 [129] 130 (Dn (Af 121 6))<|Li Q9 [124,J 1] 131<|It Q6 [131] 132 (Dn (Af 121 6))<|Li Qc [125,J 0] 133<|It Ut [127,133] 134 (Li G5 [127,.bool true] 135<|.call 215 [135] 136 [(some 3)]<|.call 215 [127] 139 [(some 3)]<|Dn (Af 136 6))<|.call 215 [.bool false] 135 [(some 3)]<|.call 215 [127] 138 [(some 3)]<|Dn (Af 135 6)
def Of (b:Bool):AQ 213 [.bool b] (.agg (f_ (bv b))):=by refine BV [none] [.bool b] uo nE rfl rfl rfl rfl rfl (by kernel_rfl) λY hf hg=>?_;unfold nE;cases b;exact AC (t:=false) rfl (λh=>by cases h) (λh=>As rfl);exact AC (t:=true) rfl (λh=>As rfl) (λh=>by cases h)
def Gn (b:Bool):AQ 215 [.bool b] (.agg (f_ (bv b))):=by refine BV [none] [.bool b] tQ gj rfl rfl rfl rfl rfl (by kernel_rfl) λY hf hg=>?_;unfold gj;cases b;exact AC (t:=false) rfl (λh=>by cases h) (λh=>As rfl);exact AC (t:=true) rfl (λh=>As rfl) (λh=>by cases h)
def FG (cs:List FV):Nat->List AV->Prop:=λ_ ws=>ws=Ay f_ cs
def DL {cs:List FV} {hv:List AV} {Y:Sy} {L:List (Nat->List AV->Prop)} (h:Am Y.v hv=Ay f_ cs):AB Tryz.prog (QF (FG cs)) L Y (.done (.tup (.int .i64 0::hv))):=
 Ai (j:=0) (by rw [h];exact A5 B2 cs) h
def E_ {m:FV} {k:Int} (ht:TV m) (hk:m.k=k) (h5:k≠5):∃i,m=⟨k,i,some 0⟩/\Do k i:=by obtain ⟨k',i,f⟩:=m;have hk:k'=k:=hk;subst hk;have hf:f=some 0:=ht.2 h5;subst hf;exact ⟨i,rfl,ht.1⟩
def O2 (x:Int):(XOp.conv 2 182).run Tryz.prog [.int .i64 x]=some (.int .u64 (IntKind.u64.wrap x)):=HE Tryz.underlying2 Tryz.underlying182 x
def fe (x:Int) (h1:0<=x) (h2:x<=9223372036854775807):(XOp.conv 182 2).run Tryz.prog [.int .u64 x]=some (.int .i64 x):=by rw [HE Tryz.underlying182 Tryz.underlying2,DU (by omega) (by omega)]
def dV {x:Int} (h1:0<=x) (h2:x<=9223372036854775807):IntKind.u64.wrap x=x:=by simp [IntKind.wrap,IntKind.bits,IntKind.signed];omega
def dJ {a b:Int} (h1:0<=a-b) (h2:a-b<=18446744073709551615):IntKind.u64.wrap (IntKind.u64.wrap a-IntKind.u64.wrap b)=a-b:=by simp [IntKind.wrap,IntKind.bits,IntKind.signed];omega
def sQ {mem:List FV} (hm:Aj mem) (inn:Bool) {v now:Int} (hv: -9223372036854775808<=v/\v<=9223372036854775807) (hn: -9223372036854775808<=now/\now<=9223372036854775807):
  A6 162 Jm (Ay f_ mem++[.bool inn,.int .i64 v,.int .i64 now]) (FG (Ep (F1 mem 14) (F1 mem 15) inn v now)):=by
 obtain ⟨m0,m1,m2,m3,m4,m5,m6,m7,m8,m9,m10,m11,m12,m13,m14,m15,m16,m17,m18,m19,m20,rfl⟩:=ED hm.len;have hm':=Aj.of.1 hm;obtain ⟨⟨k0,k1,k2,k3,k4,k5,k6,k7,k8,k9,k10,k11,k12,k13,k14,k15,k16,k17,k18,k19,k20⟩,t0,t1,t2,t3,t4,t5,t6,t7,t8,t9,GN,t11,t12,t8,Fj,F9,t16,F8,Gb,Jd,t45⟩:=hm';obtain ⟨i12,rfl,h12⟩:=E_ t12 k12 (by decide);obtain ⟨i13,rfl,h13⟩:=E_ t8 k13 (by decide);obtain ⟨i14,rfl,h14⟩:=E_ Fj k14 (by decide);obtain ⟨i15,rfl,h15⟩:=E_ F9 k15 (by decide);show A6 162 Jm _ (FG (Ep i14 i15 inn v now));have ha:=h15.i64;refine BU qq dc rfl rfl (by kernel_rfl) λY hf hg=>?_;unfold dc;refine Aa (r:=.bool true) rfl rfl (Aa (r:=.bool false) rfl rfl (AC (t:=false) rfl (λh=>by cases h) (λ_=>?_)));refine Aa (r:=.bool true) rfl rfl (Aa (r:=.bool false) rfl rfl (AC (t:=false) rfl (λh=>by cases h) (λ_=>?_)));refine Aa (r:=.bool true) rfl rfl (Aa (r:=.bool false) rfl rfl (AC (t:=false) rfl (λh=>by cases h) (λ_=>?_)));refine Aa (r:=.bool true) rfl rfl (Aa (r:=.bool false) rfl rfl (AC (t:=false) rfl (λh=>by cases h) (λ_=>?_)));refine Aa (Av ..) rfl (Aa (Av ..) rfl (Aa (r:=.int .i64 (max v 0)) rfl rfl (Aa (Ib ..) rfl ?_)));cases inn with
 |false=>exact AC (t:=true) rfl (λ_=>DL rfl) (λh=>by cases h)
 |true=>
  refine AC (t:=false) rfl (λh=>by cases h) (λ_=>Aa (Ib ..) rfl (AC rfl (λh=>?_) (λh=>?_)))
  .have h0:i14=0:=(by simpa using h);have e:Ep i14 i15 true v now=[bv (decide (0=max v 0)),tv 0,bv true,tv now]:=(by unfold Ep;rw [Ab (by decide),Ad h0]);rw [e]
   (refine i_ rfl rfl ?_ ?_<;>intro h<;>simp only [nc]at h<;>try omega)
   exact Aa (Aw ..) rfl (Ar (Of _) rfl rfl (Ar (Of true) rfl rfl (DL rfl)))
  .have h0:i14≠0:=(by simpa using h);have e139:(!decide (i14=0))=true:=(by simpa using h0);have e:Ep i14 i15 true v now=[bv (decide (E4 now i15 (max v 0)=max v 0)),tv (E4 now i15 (max v 0)),bv (!decide (i14=0)),tv i15]:=(by unfold Ep;rw [Ab (by decide),Ab h0,e139]);rw [e]
   (refine i_ rfl rfl ?_ ?_<;>intro h<;>simp only [nc]at h<;>try omega)
   have hp:E4 now i15 (max v 0)=min (now-i15) (max v 0):=(by unfold E4;rw [Ab (by omega)]);rw [hp];refine Aa (O2 now) rfl (Aa (O2 i15) rfl (Aa (Bu ..) rfl ?_));rw [dJ (by omega) (by omega)];refine Aa (O2 _) rfl ?_;rw [dV (x:=max v 0) (by omega) (by omega)];refine Aa (r:=.int .u64 (min (now-i15) (max v 0))) rfl rfl (Aa (fe _ (by omega) (by omega)) rfl (Aa (Aw ..) rfl (Ar (Of _) rfl rfl (Ar (Of (!decide (i14=0))) rfl rfl (DL rfl)))));have hp:E4 now i15 (max v 0)=0:=(by unfold E4;rw [Ad (by omega)]);rw [hp];exact Aa (Aw ..) rfl (Ar (Of _) rfl rfl (Ar (Of (!decide (i14=0))) rfl rfl (DL rfl)))
def vS {mem:List FV} (hm:Aj mem) (inn:Bool) (v:Int):
  A6 163 IR (Ay f_ mem++[.bool inn,.int .i64 v]) (FG (Ef (F1 mem 17) (F1 mem 18) inn v)):=by
 obtain ⟨m0,m1,m2,m3,m4,m5,m6,m7,m8,m9,m10,m11,m12,m13,m14,m15,m16,m17,m18,m19,m20,rfl⟩:=ED hm.len;have hm':=Aj.of.1 hm;obtain ⟨⟨k0,k1,k2,k3,k4,k5,k6,k7,k8,k9,k10,k11,k12,k13,k14,k15,k16,k17,k18,k19,k20⟩,t0,t1,t2,t3,t4,t5,t6,t7,t8,t9,GN,t11,t12,t8,Fj,F9,t16,F8,Gb,Jd,t45⟩:=hm';obtain ⟨i16,rfl,h16⟩:=E_ t16 k16 (by decide);obtain ⟨i17,rfl,h17⟩:=E_ F8 k17 (by decide);obtain ⟨i18,rfl,h18⟩:=E_ Gb k18 (by decide);show A6 163 IR _ (FG (Ef i17 i18 inn v));have hc: -32768<=i17/\i17<=32767:=by rcases h17 with q|q|q|q|q<;>omega
 refine BU vD fK rfl rfl (by kernel_rfl) λY hf hg=>?_;unfold fK;refine Aa (r:=.bool true) rfl rfl (Aa (r:=.bool false) rfl rfl (AC (t:=false) rfl (λh=>by cases h) (λ_=>?_)));refine Aa (r:=.bool true) rfl rfl (Aa (r:=.bool false) rfl rfl (AC (t:=false) rfl (λh=>by cases h) (λ_=>?_)));refine Aa (r:=.bool true) rfl rfl (Aa (r:=.bool false) rfl rfl (AC (t:=false) rfl (λh=>by cases h) (λ_=>?_)));cases inn with
 |false=>have e:Ef i17 i18 false v=[bv (decide (v<=i17)),nv i17,bv false]:=rfl;rw [e];exact AC (t:=false) rfl (λh=>by cases h) (λ_=>Aa (Ba ..) rfl (Ar (Gn _) rfl rfl (Ar (Gn false) rfl rfl (DL rfl))))
 |true=>
  refine AC (t:=true) rfl (λ_=>?_) (λh=>by cases h)
  (refine i_ rfl rfl ?_ ?_<;>intro h<;>simp only [nc]at h<;>try omega)
  have e:Ef i17 i18 true v=[bv (decide (v<=min (i17+1) 32767)),nv (min (i17+1) 32767),bv true]:=(by unfold Ef;rw [Ad ⟨rfl,h⟩]);rw [e];refine Aa (q_ (x:=i17) (y:=1) (by omega) (by omega)) rfl (Aa (r:=.int .i64 (min (i17+1) 32767)) rfl rfl (Aa (Ba ..) rfl (Ar (Gn _) rfl rfl (Ar (Gn true) rfl rfl (DL rfl)))));have e:Ef i17 i18 true v=[bv (decide (v<=i17)),nv i17,bv true]:=(by unfold Ef;rw [Ab (λq=>h q.2)]);rw [e];exact Aa (Ba ..) rfl (Ar (Gn _) rfl rfl (Ar (Gn true) rfl rfl (DL rfl)))
def qN {mem:List FV} (hm:Aj mem) (inn:Bool) (v:Int):
  A6 163 IY (Ay f_ mem++[.bool inn,.int .i64 v]) (FG (E5 (F1 mem 20) inn)):=by
 obtain ⟨m0,m1,m2,m3,m4,m5,m6,m7,m8,m9,m10,m11,m12,m13,m14,m15,m16,m17,m18,m19,m20,rfl⟩:=ED hm.len;have hm':=Aj.of.1 hm;obtain ⟨⟨k0,k1,k2,k3,k4,k5,k6,k7,k8,k9,k10,k11,k12,k13,k14,k15,k16,k17,k18,k19,k20⟩,t0,t1,t2,t3,t4,t5,t6,t7,t8,t9,GN,t11,t12,t8,Fj,F9,t16,F8,Gb,Jd,t45⟩:=hm';obtain ⟨i19,rfl,h19⟩:=E_ Jd k19 (by decide);obtain ⟨i20,rfl,h20⟩:=E_ t45 k20 (by decide);show A6 163 IY _ (FG (E5 i20 inn));refine BU uv nw rfl rfl (by kernel_rfl) λY hf hg=>?_;unfold nw;refine Aa (r:=.bool true) rfl rfl (Aa (r:=.bool false) rfl rfl (AC (t:=false) rfl (λh=>by cases h) (λ_=>?_)));refine Aa (r:=.bool true) rfl rfl (Aa (r:=.bool false) rfl rfl (AC (t:=false) rfl (λh=>by cases h) (λ_=>?_)));refine Aa (Av ..) rfl ?_;cases inn with
 |false=>have e:E5 i20 false=[bv false,bv false]:=rfl;rw [e];by_cases h0:i20=0;subst h0;exact Aa (r:=.bool false) rfl rfl (AC (t:=false) rfl (λh=>by cases h) (λ_=>Ar (Gn false) rfl rfl (Ar (Gn false) rfl rfl (DL rfl))));have e1:(!decide (i20=0))=true:=(by simpa using h0);refine Aa (r:=.bool true) (by show (XOp.bin .neq 4 false false).run Tryz.prog [.bool false,.bool (!decide (i20=0))]=_;rw [e1];rfl) rfl (AC (t:=true) rfl (λ_=>?_) (λh=>by cases h));exact Aa (r:=.bool false) rfl rfl (Ar (Gn false) rfl rfl (Ar (Gn false) rfl rfl (DL rfl)))
 |true=>by_cases h0:i20=0;subst h0;have e:E5 0 true=[bv true,bv true]:=rfl;rw [e];exact Aa (r:=.bool true) rfl rfl (AC (t:=true) rfl (λ_=>Aa (r:=.bool true) rfl rfl (Ar (Gn true) rfl rfl (Ar (Gn true) rfl rfl (DL rfl)))) (λh=>by cases h));have e:E5 i20 true=[bv false,bv true]:=(by unfold E5;rw [Bk h0];rfl);rw [e];have e1:(!decide (i20=0))=true:=(by simpa using h0);refine Aa (r:=.bool false) (by show (XOp.bin .neq 4 false false).run Tryz.prog [.bool true,.bool (!decide (i20=0))]=_;rw [e1];rfl) rfl (AC (t:=false) rfl (λh=>by cases h) (λ_=>?_));exact Ar (Gn false) rfl rfl (Ar (Gn true) rfl rfl (DL rfl))
def nT (m:List FV) (l:Int):Ak [b_ m,.int .i64 l]=true:=by simp only [Ak,okC,x_]
def qx (m:List FV) (l e:Int):Ak [b_ m,.int .i64 l,.int .i64 e]=true:=by simp only [Ak,okC,x_]
def Ec {m:List FV} (hm:Aj m):∃n z cs,some (b_ m)=some (AV.vsl n z cs):=by
 have:=hm.len;cases m with
 |nil=>simp at this
 |cons x r=>exact ⟨_,_,_,rfl⟩
def EX_ {mem:List FV} {left er:Int} {to e:GX} (h:o_ mem e=.error er):FF to e mem left=⟨mem,left,er⟩:=by unfold FF;rw [h]
def EW_ {mem:List FV} {left a:Int} {to e:GX} {v:FV} (h3:to.op=3) (h:o_ mem e=.ok v) (hp:Ip mem to=.ok a):FF to e mem left=⟨mem.set a.toNat v,left,0⟩:=by unfold FF;rw [h];simp only;rw [Ad h3,hp]
def Dn_ {mem:List FV} {left er:Int} {to e:GX} {v:FV} (h3:to.op=3) (h:o_ mem e=.ok v) (hp:Ip mem to=.error er):FF to e mem left=⟨mem,left,er⟩:=by unfold FF;rw [h];simp only;rw [Ad h3,hp]
def tV {mem:List FV} {left:Int} {to e:GX} {v:FV} (h3:to.op≠3) (h:o_ mem e=.ok v):FF to e mem left=⟨mem.set to.ad.toNat v,left,0⟩:=by unfold FF;rw [h];simp only;rw [Ab h3]
def Np {l:List FV} (h:l.length=21):(XOp.opn 21 3).run Tryz.prog [b_ l]=some (.agg (Ay f_ l)):=by obtain ⟨m0,m1,m2,m3,m4,m5,m6,m7,m8,m9,m10,m11,m12,m13,m14,m15,m16,m17,m18,m19,m20,rfl⟩:=ED h;rfl
theorem Kb (l:List FV):(Ay f_ l).length=l.length*3:=by
 induction l with
 |nil=>rfl
 |cons a r ih=>simp only [Ay,Ax,FL,ih,List.length_cons];omega
def jc {m0 m1 m2 m3 m4 m5 m6 m7 m8 m9 m10 m11 m12 m13 m14 m15 m16 m17 m18 m19 m20:FV} (hm:Aj [m0,m1,m2,m3,m4,m5,m6,m7,m8,m9,m10,m11,m12,m13,m14,m15,m16,m17,m18,m19,m20]): -32768<=m17.i/\m17.i<=32767:=by have h:=Aj.of.1 hm;obtain ⟨⟨k0,k1,k2,k3,k4,k5,k6,k7,k8,k9,k10,k11,k12,k13,k14,k15,k16,k17,k18,k19,k20⟩,t0,t1,t2,t3,t4,t5,t6,t7,t8,t9,GN,t11,t12,OG,t14,MB,t16,Fj,F9,Gb,F8⟩:=h;rcases Fj.1 with q|q|q|q|q<;>omega
theorem ER_ {body:List FV->Int->Dw} {c:List FV->Except Int FV} {n:Nat} {mem:List FV} {left:Int}:Is body c (n+1) mem left=if left-1<0 then ⟨mem,left-1,8⟩else match c mem with
 | .error e=>⟨mem,left-1,e⟩
 | .ok v=>if v.i=0 then ⟨mem,left-1,0⟩else if (body mem (left-1)).e=0 then Is body c n (body mem (left-1)).mem (body mem (left-1)).left else body mem (left-1):=rfl
theorem uD {f:GS->List FV->Int->Dw} {s:GS} {r:List GS} {mem:List FV} {left:Int}:Di f (s::r) mem left=if (f s mem left).e=0 then Di f r (f s mem left).mem (f s mem left).left else f s mem left:=rfl
def Fz_ {mem:List FV} (h:Aj mem):(XOp.bin .eql 34 false true).run Tryz.prog [b_ mem,.nsl]=some (.bool false):=by obtain ⟨m0,m1,m2,m3,m4,m5,m6,m7,m8,m9,m10,m11,m12,m13,m14,m15,m16,m17,m18,m19,m20,rfl⟩:=ED h.len;kernel_rfl
def gP {mem:List FV} (h:Aj mem):(XOp.app 3 24).run Tryz.prog [.vsl 0 3 [],b_ mem]=some (b_ mem):=by obtain ⟨m0,m1,m2,m3,m4,m5,m6,m7,m8,m9,m10,m11,m12,m13,m14,m15,m16,m17,m18,m19,m20,rfl⟩:=ED h.len;kernel_rfl
def uZ {a b:List FV} (ha:Aj a) (hb:Aj b):(some (b_ a)=some .nsl/\some (b_ b)=some .nsl)\/∃n z cs ds,some (b_ a)=some (.vsl n z cs)/\some (b_ b)=some (.vsl n z ds):=by
 have h1:=ha.len;have h2:=hb.len;cases a with
 |nil=>simp at h1
 |cons x r=>cases b with
  |nil=>simp at h2
  |cons y q=>have e:q.length=r.length:=(by simp at h1 h2;omega);refine .inr ⟨_,_,_,Ay f_ (y::q),rfl,?_⟩;show some (AV.vsl (q.length+1) 3 _)=_;rw [e]
def RQ (r:Dw):Nat->List AV->Prop:=λ_ ws=>ws=[b_ r.mem,.int .i64 r.e]
def tG:VC:=⟨⟨[],[]⟩,[(86,[(some 3),none]),(85,[(some 3),none])],[(1,[⟨[(4,.ptr 2 0),(6,.slx 3 3 0),(7,.slx 1 0 0),(1,.ptx 0 64 3 0),(2,.ptr 1 0)],[(2,[J 0,J 0,.flt .f64 0]),(1,[65,66,67,68,69,70,71,72,73,74])],4,2,[⟨3,3,0,6,none⟩],[],[(0,64)]⟩])],1,true,[(134,CW)]⟩
def jw:VT:=Iq 65 1 75 (Dn [71,72,73,J 0])<|Iq 65 2 76 (Li Q2 [64,69] 77<|.lt Qx [64,77] 78 (some 3)<|Dn [78,79,80,J 0])<|.loop 77 0 [.nsl,J 0] (.cons 2 (Li Qh [74] 79<|It Q5 [78,79] 80 (Li Qg [74,78] 81<|.lt Qm [81] 82 (some 10)<|Cf 134 CW ([64]++Af 82 10) 92 4<|It Q7 [106,J 0] 107 (Dn [J 0,J 0,.flt .f64 0,106])<|Li Qe [77,.agg [103,104,105]] 108<|Li Q3 [78,J 1] 109<|.again 0 0 [108,109])<|Iq 65 3 81 (Li Q2 [77,J 0] 82<|Li Qv [77,82] 83<|It Z8 [83,J 0] 84 (Dn [J 0,J 0,.flt .f64 0,J 6])<|Li Q2 [77,J 0] 85<|Li Qv [77,85] 86<|It Qu [86,70] 87 (Dn [J 0,J 0,.flt .f64 0,J 6])<|Li Q2 [77,J 0] 88<|Li Qv [77,88] 89<|Li Qr [69,89] 90<|Li Q2 [64,90] 91<|.lt Qx [64,91] 92 (some 3)<|Dn [92,93,94,J 0])<|Iq 65 17 82 (Li Q2 [77,J 0] 83<|.lt Qx [77,83] 84 (some 3)<|.call 85 [66,.agg [84,85,86]] 87 [(some 3),none]<|Dn [87,88,89,90])<|Li Qe [77,.agg [J 0,J 0,.flt .f64 0]] 83<|Li Qg [74,J 0] 84<|Li Ze [84] 85<|Li Qn [85] 86<|Li Q2 [83,J 0] 87<|.lt Qx [83,87] 88 (some 3)<|Li Q2 [83,J 1] 91<|.lt Qx [83,91] 92 (some 3)<|.call 86 [65,86,.agg [88,89,90],.agg [92,93,94]] 95 [(some 3),none]<|Dn [95,96,97,98]) .nil)
def aP {r:Except Int FV} {v:FV} {hv:List AV} {Y:Sy} {L:List (Nat->List AV->Prop)} (h:Am Y.v hv=f_ v++[.int .i64 0]) (hr:r=.ok v):AB Tryz.prog (QF (OD r)) L Y (.done (.tup (.int .i64 0::hv))):=
 Ai (j:=0) (by rw [h];exact LL v 0) (by show Am Y.v hv=_;rw [h,hr];rfl)
def aE {r:Except Int FV} {e:Int} {hv:List AV} {Y:Sy} {L:List (Nat->List AV->Prop)} (h:Am Y.v hv=f_ FV.z++[.int .i64 e]) (hr:r=.error e):AB Tryz.prog (QF (OD r)) L Y (.done (.tup (.int .i64 0::hv))):=
 Ai (j:=0) (by rw [h];exact LL FV.z e) (by show Am Y.v hv=_;rw [h,hr];rfl)
def ZR {r:Except Int FV} {v:FV} {e:Int} {hv:List AV} {Y:Sy} {L:List (Nat->List AV->Prop)} (h:Am Y.v hv=f_ v++[.int .i64 e]) (hr:AV.tup [.agg (f_ v),.int .i64 e]=Sc r):AB Tryz.prog (QF (OD r)) L Y (.done (.tup (.int .i64 0::hv))):=
 Ai (j:=0) (by rw [h];exact LL v e) (by
  show Am Y.v hv=_;rw [h];injection hr with hr
  injection hr with h1 h2
  injection h1 with h1
  injection h2 with h2
  rw [h1,h2])
def NV (mem:List FV) (x:GX):Ak (b_ mem::v_ x)=true:=A5.okL_join (a:=[b_ mem]) (by simp only [Ak,okC,x_]) (BT x)
def Nw {mem:List FV} (hm:Aj mem):∀(d:Nat) (x:GX),TX d x->A6 134 CW (b_ mem::v_ x) (OD (o_ mem x))
 |0,_,h=>h.elim
 |d+1,.mk op kd nm fd ad n vk vi vf ag,hx=>by
  have hlen:=hm.len;have ih:=λ(z:GX) (hz:z∈ag)=>Nw hm d z (hx.2.2.2.2.2 z hz);have hA:=hx.1;have hal:ag.length<=2:=(by unfold Cz at hA;omega);have hop:=yU hx;refine NG (c:=tG) (n:=300) (t:=jw) mo ov (by rw [List.length_cons,Fa];rfl) (λY _=>Ck _) (by kernel_rfl) λY hf hg=>?_;unfold jw
  (refine i_ rfl rfl ?_ ?_<;>intro h<;>simp only [nc]at h<;>try omega)
  exact aP (v:=⟨vk,vi,some vf⟩) rfl (uX h);have n1:=h
  (refine i_ rfl rfl ?_ ?_<;>intro h<;>simp only [nc]at h<;>try omega)
  obtain ⟨_,_,a0,a1⟩:=nP hm hx h;obtain ⟨m,rfl⟩:∃m:Nat,ad=(m:Int):=⟨ad.toNat,by omega⟩;have hml:m<mem.length:=(by omega);refine Aa (D_ mem hml) rfl (B3 (PZ mem hml) rfl (B2 _) ?_);exact aP (v:=mem[m]) rfl (by rw [yF h,Tn hml]);have n2:=h;refine D3 (ι:=List FV×Nat) (λs=>[b_ s.1,.int .i64 (s.2:Int)]) (λs=>s.1.length=s.2/\s.2<=ag.length/\Iw mem ag s.1 s.2) (λs=>ag.length-s.2) ([],0) ⟨rfl,za' _,cI _ _⟩ rfl (λs _=>by simp only [Ak,okC,x_]) (λs s' _ _ h=>by simp at h;omega) (λs hs=>?_);obtain ⟨acc,i⟩:=s;obtain ⟨h1,h2,h3⟩:=hs;simp only at h1 h2 h3⊢;refine Aa (I_ ag) rfl ?_
  (refine i_ rfl rfl ?_ ?_<;>intro h<;>simp only [nc]at h<;>try omega)
  .have hi:i<ag.length:=(by omega);have hld:=Jf ag hi;have hz:=ih ag[i] (zb' hi);have hrx:=λv=>kC (v:=v) h3 hi;have hre:=λe=>ow (e:=e) h3 hi;rcases hzz:ag[i]with ⟨zo,zk,znm,zfd,zad,zn,zvk,zvi,zvf,za⟩;rw [hzz]at hld hz hrx hre;refine Aa (O_ ag hi) (A5 BT _) (B3 hld rfl (BT (.mk zo zk znm zfd zad zn zvk zvi zvf za)) ?_);refine Bo hz (NV mem (.mk zo zk znm zfd zad zn zvk zvi zvf za)) ⟨?_,trivial⟩;rintro ws hws;cases hr:o_ mem (.mk zo zk znm zfd zad zn zvk zvi zvf za)with
   |error e=>
    have e0:=y_ _ _ hr;obtain rfl:ws=f_ FV.z++[.int .i64 e]:=by rw [hr]at hws;exact hws
    (refine i_ rfl rfl ?_ ?_<;>intro h<;>simp only [nc]at h<;>try omega)
    exact aE (e:=e) rfl (su n1 n2 (hre e hr))
   |ok v=>
    obtain rfl:ws=f_ v++[.int .i64 0]:=by rw [hr]at hws;exact hws
    (refine i_ rfl rfl ?_ ?_<;>intro h<;>simp only [nc]at h<;>try omega)
    exact Aa (L4 acc v (by omega)) (x_ _) (Aa (q_ (by omega) (by omega)) rfl (CX rfl ⟨(acc++[v],i+1),⟨by simp;omega,hi,hrx v hr⟩,rfl,by simp only;omega⟩))
  have hi:i=ag.length:=(by omega);subst hi;have hL:=iu h3;have hV:=T6 (R6 hm d) ag hx.2.2.2.2.2 acc hL;have hX:=tN (mem:=mem) (kd:=kd) (nm:=nm) (fd:=fd) (ad:=ad) (n:=n) (vk:=vk) (vi:=vi) (vf:=vf) n1 n2 hL;obtain ⟨a,b,ea,eb,ta,tb,k3,k17,ko,_⟩:=ot hm hx n1 n2 hV;rw [ea,eb]at hX;have q3:=hx.2.2.2.2.1.2.2.1;have q17:=hx.2.2.2.2.1.2.2.2.2.2.2
  (refine i_ rfl rfl ?_ ?_<;>intro h<;>simp only [nc]at h<;>try omega)
  .have e3:=h;obtain ⟨ka,rfl⟩:=k3 h;obtain ⟨rfl,rfl,rfl,_⟩:=q3 h;have hX:o_ mem (.mk op 2 nm fd 8 4 vk vi vf ag)=(if a.i<0\/4<=a.i then .error 6 else .ok (cell mem (8+a.i))):=(by rw [hX,D5,Ad e3]);refine Aa rfl rfl (Aa (r:=.int .i64 a.i) rfl rfl ?_)
   (refine i_ rfl rfl ?_ ?_<;>intro h<;>simp only [nc]at h<;>try omega)
   exact aE (e:=6) rfl (by rw [hX,Ad (.inl h)]);refine Aa rfl rfl (Aa (r:=.int .i64 a.i) rfl rfl ?_)
   (refine i_ rfl rfl ?_ ?_<;>intro h<;>simp only [nc]at h<;>try omega)
   exact aE (e:=6) rfl (by rw [hX,Ad (.inr h)]);have hr:¬(a.i<0\/4<=a.i):=(by omega);rw [Ab hr]at hX;obtain ⟨m,em⟩:∃m:Nat,8+a.i=(m:Int):=⟨(8+a.i).toNat,by omega⟩;have hml:m<mem.length:=(by omega);rw [em,Tn hml]at hX;refine Aa rfl rfl (Aa (r:=.int .i64 a.i) rfl rfl (Aa (q_ (by omega) (by omega)) rfl ?_));rw [em];exact Aa (D_ mem hml) rfl (B3 (PZ mem hml) rfl (B2 _) (aP (v:=mem[m]) rfl hX))
  have n3:=h;rw [D5,Ab n3]at hX
  (refine i_ rfl rfl ?_ ?_<;>intro h<;>simp only [nc]at h<;>try omega)
  have e17:=h;obtain ⟨ka,kb,rfl⟩:=k17 h;rw [Ad e17]at hX;refine Aa rfl rfl (B3 (cs:=f_ a) rfl rfl (B2 _) ?_);refine Ar (vs:=f_ (IB kd a)++[.int .i64 (IQ kd a)]) (p85 (by have:=q17 e17;omega) a ⟨by omega,by omega⟩) rfl (LL _ _) (ZR rfl ?_);rw [yh,hX];have n17:=h;obtain ⟨oK,bk,ok,hvs⟩:=ko n3 n17;rw [Ab n17]at hX;have hks:=hV.1;rcases hvs with ⟨rfl,hu⟩|⟨rfl,hu⟩;obtain ⟨y,rfl,yk⟩:=lP hks.symm;refine Aa (L4 [a] FV.z (by simp)) (x_ _) (Aa (O_ [y] (i:=0) (by simp)) (A5 BT _) (Aa (gW y _) (A5.okL_join (gO y) (A5 BT _)) (Aa (lV y _) rfl ?_)));rw [yk];refine Aa rfl rfl (B3 (cs:=f_ a) rfl rfl (B2 _) (Aa rfl rfl (B3 (cs:=f_ FV.z) rfl rfl rfl ?_)));refine Ar (vs:=f_ (Hv op a.k a FV.z)++[.int .i64 (C9 op a.k FV.z)]) (fV oK ta rfl) rfl (LL _ _) (ZR rfl ?_);rw [nA,hX,EL_ FV.z b hu oK];rfl;obtain ⟨y,z,rfl,yk,zk⟩:=BU_ hks.symm;refine Aa (L4 [a,b] FV.z (by simp)) (x_ _) (Aa (O_ [y,z] (i:=0) (by simp)) (A5 BT _) (Aa (gW y _) (A5.okL_join (gO y) (A5 BT _)) (Aa (lV y _) rfl ?_)));rw [yk];refine Aa rfl rfl (B3 (cs:=f_ a) rfl rfl (B2 _) (Aa rfl rfl (B3 (cs:=f_ b) rfl rfl (B2 _) ?_)));refine Ar (vs:=f_ (Hv op a.k a b)++[.int .i64 (C9 op a.k b)]) (fV oK ta rfl) rfl (LL _ _) (ZR rfl ?_);rw [nA,hX];rfl
def rb:VC:=⟨⟨[],[]⟩,[(171,[none])],[],1,true,[]⟩
def mK:VT:=It Qd [100,J 1] 130 (Dn (Af 100 12))<|It Qd [103,J 4] 131 (Dn (Af 100 12))<|It Qd [106,J 1] 132 (Dn (Af 100 12))<|It Qd [109,J 4] 133 (Dn (Af 100 12))<|Li (.mm true) [128,J 0] 134<|Li Qc [101,J 0] 135<|Li Qc [107,J 0] 136<|It Q6 [127] 137 (.call 171 [.bool false] 138 [none]<|.call 171 [.bool false] 139 [none]<|Dn [100,138,102,103,J 0,105,106,139,108,109,J 0,111])<|It Q6 [136] 138 (It Zy [129,129] 139 (Li Qq [J 0,134] 140<|.call 171 [140] 141 [none]<|.call 171 [.bool true] 142 [none]<|Dn [100,141,102,103,J 0,105,106,142,108,109,129,111])<|Li Z0 [129] 140<|Li Z0 [129] 141<|Li U0 [140,141] 142<|Li Z0 [134] 143<|It G6 [142,143] 144 (Li Qq [134,134] 145<|.call 171 [145] 146 [none]<|.call 171 [.bool true] 147 [none]<|Dn [100,146,102,103,134,105,106,147,108,109,129,111])<|Li U2 [142] 145<|Li Qq [145,134] 146<|.call 171 [146] 147 [none]<|.call 171 [.bool true] 148 [none]<|Dn [100,147,102,103,145,105,106,148,108,109,129,111])<|It Zy [129,110] 139 (Li Qq [J 0,134] 140<|.call 171 [140] 141 [none]<|.call 171 [136] 142 [none]<|Dn [100,141,102,103,J 0,105,106,142,108,109,110,111])<|Li Z0 [129] 140<|Li Z0 [110] 141<|Li U0 [140,141] 142<|Li Z0 [134] 143<|It G6 [142,143] 144 (Li Qq [134,134] 145<|.call 171 [145] 146 [none]<|.call 171 [136] 147 [none]<|Dn [100,146,102,103,134,105,106,147,108,109,110,111])<|Li U2 [142] 145<|Li Qq [145,134] 146<|.call 171 [146] 147 [none]<|.call 171 [136] 148 [none]<|Dn [100,147,102,103,145,105,106,148,108,109,110,111]
def qf:VC:=⟨⟨[],[]⟩,[(171,[none])],[],1,true,[]⟩
def nL:VT:=Dn (Af 112 9)
def tW:VC:=⟨⟨[],[]⟩,[(171,[none])],[],1,true,[]⟩
def jS:VT:=Dn (Af 121 6)
def w8:VC:=⟨⟨[],[]⟩,[(171,[none])],[],1,true,[]⟩
def jp:VT:=It Qd [112,J 1] 129 (Dn (Af 112 9))<|It Qd [115,J 2] 130 (Dn (Af 112 9))<|It Qd [118,J 1] 131 (Dn (Af 112 9))<|Li Qc [119,J 0] 132<|.call 171 [127] 133 [none]<|.ite 127 (It Q6 [132] 134 (Li G4 [116,J 1] 135<|Li U1 [135,J 32767] 136<|Li Qu [136,128] 137<|.call 171 [137] 138 [none]<|Dn [112,138,114,115,136,117,118,133,120])<|Li Qu [116,128] 135<|.call 171 [135] 136 [none]<|Dn ([112,136]++Af 114 5++[133,120]))<|Li Qu [116,128] 134<|.call 171 [134] 135 [none]<|Dn ([112,135]++Af 114 5++[133,120])
def zr:VC:=⟨⟨[],[]⟩,[(171,[none])],[],1,true,[]⟩
def fC:VT:=It Qd [121,J 1] 129 (Dn (Af 121 6))<|It Qd [124,J 1] 130 (Dn (Af 121 6))<|Li Qc [125,J 0] 131<|.call 171 [127] 132 [none]<|.ite 127 (Li Q6 [131] 133<|.call 171 [133] 134 [none]<|Dn [121,134,123,124,132,126])<|.call 171 [.bool false] 133 [none]<|Dn [121,133,123,124,132,126]
def yL:VC:=⟨⟨[],[]⟩,[],[(10001,[⟨[],[],0,0,[⟨0,3,21,0,none⟩],[],[]⟩])],1,true,[(127,Jm)]⟩
def oO:VT:=Li Qe [67,.agg [J 0,J 0,.flt .f64 0]] 69<|.lt Z6 [64] 70 (some 63)<|Li Q2 [69,J 0] 133<|Li Qv [69,133] 134<|Li Qc [134,J 0] 135<|Li Q2 [69,J 1] 136<|Li Qv [69,136] 137<|Cf 127 Jm (Af 70 63++[135,137,68]) 138 12<|Dn [.vsl 21 3 (Af 70 36++Af 204 12++Af 118 15)]
def IG_:VC:=⟨⟨[],[]⟩,[],[(10001,[⟨[],[],0,0,[⟨0,3,21,0,none⟩],[],[]⟩])],1,true,[(127,Yo),(128,IR)]⟩
def fD:VT:=Li Qe [67,.agg [J 0,J 0,.flt .f64 0]] 69<|.lt Z6 [64] 70 (some 63)<|Li Q2 [69,J 0] 133<|Li Qv [69,133] 134<|Li Qc [134,J 0] 135<|Li Q2 [69,J 1] 136<|Li Qv [69,136] 137<|Cf 127 Yo (Af 70 63++[135,137,68]) 138 9<|Li Q2 [69,J 0] 213<|Li Qv [69,213] 214<|Li Qc [214,J 0] 215<|Li Q2 [69,J 1] 216<|Li Qv [69,216] 217<|Cf 128 IR (Af 70 63++[215,217]) 218 9<|Dn [.vsl 21 3 (Af 70 48++Af 283 9++Af 127 6)]
def yY:VC:=⟨⟨[],[]⟩,[],[(10001,[⟨[],[],0,0,[⟨0,3,21,0,none⟩],[],[]⟩])],1,true,[(127,Xy),(128,IY)]⟩
def gb:VT:=Li Qe [67,.agg [J 0,J 0,.flt .f64 0]] 69<|.lt Z6 [64] 70 (some 63)<|Li Q2 [69,J 0] 133<|Li Qv [69,133] 134<|Li Qc [134,J 0] 135<|Li Q2 [69,J 1] 136<|Li Qv [69,136] 137<|Cf 127 Xy (Af 70 63++[135,137,68]) 138 6<|Li Q2 [69,J 0] 210<|Li Qv [69,210] 211<|Li Qc [211,J 0] 212<|Li Q2 [69,J 1] 213<|Li Qv [69,213] 214<|Cf 128 IY (Af 70 63++[212,214]) 215 6<|Dn [.vsl 21 3 (Af 70 57++Af 280 6)]
def ri {mem:List FV} (hm:Aj mem) (inn:Bool) {v now:Int} (hv: -9223372036854775808<=v/\v<=9223372036854775807) (hn: -9223372036854775808<=now/\now<=9223372036854775807):
  A6 127 Jm (Ay f_ mem++[.bool inn,.int .i64 v,.int .i64 now]) (FG (Ep (F1 mem 14) (F1 mem 15) inn v now)):=by
 obtain ⟨m0,m1,m2,m3,m4,m5,m6,m7,m8,m9,m10,m11,m12,m13,m14,m15,m16,m17,m18,m19,m20,rfl⟩:=ED hm.len;have hm':=Aj.of.1 hm;obtain ⟨⟨k0,k1,k2,k3,k4,k5,k6,k7,k8,k9,k10,k11,k12,k13,k14,k15,k16,k17,k18,k19,k20⟩,t0,t1,t2,t3,t4,t5,t6,t7,t8,t9,GN,t11,t12,t8,Fj,F9,t16,F8,Gb,Jd,t45⟩:=hm';obtain ⟨i12,rfl,h12⟩:=E_ t12 k12 (by decide);obtain ⟨i13,rfl,h13⟩:=E_ t8 k13 (by decide);obtain ⟨i14,rfl,h14⟩:=E_ Fj k14 (by decide);obtain ⟨i15,rfl,h15⟩:=E_ F9 k15 (by decide);show A6 127 Jm _ (FG (Ep i14 i15 inn v now));have ha:=h15.i64;refine BU rb mK rfl rfl (by kernel_rfl) λY hf hg=>?_;unfold mK;refine Aa (r:=.bool false) rfl rfl (AC (t:=false) rfl (λh=>by cases h) (λ_=>?_));refine Aa (r:=.bool false) rfl rfl (AC (t:=false) rfl (λh=>by cases h) (λ_=>?_));refine Aa (r:=.bool false) rfl rfl (AC (t:=false) rfl (λh=>by cases h) (λ_=>?_));refine Aa (r:=.bool false) rfl rfl (AC (t:=false) rfl (λh=>by cases h) (λ_=>?_));refine Aa (r:=.int .i64 (max v 0)) rfl rfl (Aa (Av ..) rfl (Aa (Av ..) rfl (Aa (Ib ..) rfl ?_)));cases inn with
 |false=>exact AC (t:=true) rfl (λ_=>Ar (CV false) rfl rfl (Ar (CV false) rfl rfl (DL rfl))) (λh=>by cases h)
 |true=>
  refine AC (t:=false) rfl (λh=>by cases h) (λ_=>Aa (Ib ..) rfl (AC rfl (λh=>?_) (λh=>?_)))
  .have h0:i14=0:=(by simpa using h);have e:Ep i14 i15 true v now=[bv (decide (0=max v 0)),tv 0,bv true,tv now]:=(by unfold Ep;rw [Ab (by decide),Ad h0]);rw [e]
   (refine i_ rfl rfl ?_ ?_<;>intro h<;>simp only [nc]at h<;>try omega)
   exact Aa (Aw ..) rfl (Ar (CV _) rfl rfl (Ar (CV true) rfl rfl (DL rfl)))
  .have h0:i14≠0:=(by simpa using h);have e139:(!decide (i14=0))=true:=(by simpa using h0);have e:Ep i14 i15 true v now=[bv (decide (E4 now i15 (max v 0)=max v 0)),tv (E4 now i15 (max v 0)),bv (!decide (i14=0)),tv i15]:=(by unfold Ep;rw [Ab (by decide),Ab h0,e139]);rw [e]
   (refine i_ rfl rfl ?_ ?_<;>intro h<;>simp only [nc]at h<;>try omega)
   have hp:E4 now i15 (max v 0)=0:=(by unfold E4;rw [Ad (by omega)]);rw [hp];exact Aa (Aw ..) rfl (Ar (CV _) rfl rfl (Ar (CV (!decide (i14=0))) rfl rfl (DL rfl)))
   .have hp:E4 now i15 (max v 0)=min (now-i15) (max v 0):=(by unfold E4;rw [Ab (by omega)]);rw [hp];refine Aa (O2 now) rfl (Aa (O2 i15) rfl (Aa (Bu ..) rfl ?_));rw [dJ (by omega) (by omega)];refine Aa (O2 _) rfl ?_;rw [dV (x:=max v 0) (by omega) (by omega)]
    (refine i_ rfl rfl ?_ ?_<;>intro h<;>simp only [nc]at h<;>try omega)
    have hq:min (now-i15) (max v 0)=max v 0:=(by omega);rw [hq];exact Aa (Aw ..) rfl (Ar (CV _) rfl rfl (Ar (CV (!decide (i14=0))) rfl rfl (DL rfl)));have hq:min (now-i15) (max v 0)=now-i15:=(by omega);rw [hq];exact Aa (fe _ (by omega) (by omega)) rfl (Aa (Aw ..) rfl (Ar (CV _) rfl rfl (Ar (CV (!decide (i14=0))) rfl rfl (DL rfl))))
def JW_ {mem:List FV} (hm:Aj mem) (inn:Bool) (v now:Int):
  A6 127 Yo (Ay f_ mem++[.bool inn,.int .i64 v,.int .i64 now]) (FG ((mem.drop 16).take 3)):=by
 obtain ⟨m0,m1,m2,m3,m4,m5,m6,m7,m8,m9,m10,m11,m12,m13,m14,m15,m16,m17,m18,m19,m20,rfl⟩:=ED hm.len;refine BU qf nL rfl rfl (by kernel_rfl) λY hf hg=>?_;unfold nL;exact DL rfl
def JX_ {mem:List FV} (hm:Aj mem) (inn:Bool) (v now:Int):
  A6 127 Xy (Ay f_ mem++[.bool inn,.int .i64 v,.int .i64 now]) (FG ((mem.drop 19).take 2)):=by
 obtain ⟨m0,m1,m2,m3,m4,m5,m6,m7,m8,m9,m10,m11,m12,m13,m14,m15,m16,m17,m18,m19,m20,rfl⟩:=ED hm.len;refine BU tW jS rfl rfl (by kernel_rfl) λY hf hg=>?_;unfold jS;exact DL rfl
def yy {mem:List FV} (hm:Aj mem) (inn:Bool) (v:Int):
  A6 128 IR (Ay f_ mem++[.bool inn,.int .i64 v]) (FG (Ef (F1 mem 17) (F1 mem 18) inn v)):=by
 obtain ⟨m0,m1,m2,m3,m4,m5,m6,m7,m8,m9,m10,m11,m12,m13,m14,m15,m16,m17,m18,m19,m20,rfl⟩:=ED hm.len;have hm':=Aj.of.1 hm;obtain ⟨⟨k0,k1,k2,k3,k4,k5,k6,k7,k8,k9,k10,k11,k12,k13,k14,k15,k16,k17,k18,k19,k20⟩,t0,t1,t2,t3,t4,t5,t6,t7,t8,t9,GN,t11,t12,t8,Fj,F9,t16,F8,Gb,Jd,t45⟩:=hm';obtain ⟨i16,rfl,h16⟩:=E_ t16 k16 (by decide);obtain ⟨i17,rfl,h17⟩:=E_ F8 k17 (by decide);obtain ⟨i18,rfl,h18⟩:=E_ Gb k18 (by decide);show A6 128 IR _ (FG (Ef i17 i18 inn v));have hc: -32768<=i17/\i17<=32767:=by rcases h17 with q|q|q|q|q<;>omega
 refine BU w8 jp rfl rfl (by kernel_rfl) λY hf hg=>?_;unfold jp;refine Aa (r:=.bool false) rfl rfl (AC (t:=false) rfl (λh=>by cases h) (λ_=>?_));refine Aa (r:=.bool false) rfl rfl (AC (t:=false) rfl (λh=>by cases h) (λ_=>?_));refine Aa (r:=.bool false) rfl rfl (AC (t:=false) rfl (λh=>by cases h) (λ_=>?_));refine Aa (Av ..) rfl (Ar (CV inn) rfl rfl ?_);cases inn with
 |false=>have e:Ef i17 i18 false v=[bv (decide (v<=i17)),nv i17,bv false]:=rfl;rw [e];exact AC (t:=false) rfl (λh=>by cases h) (λ_=>Aa (Ba ..) rfl (Ar (CV _) rfl rfl (DL rfl)))
 |true=>refine AC (t:=true) rfl (λ_=>Aa (Ib ..) rfl (AC rfl (λh=>?_) (λh=>?_))) (λh=>by cases h);have h0:i18=0:=(by simpa using h);have e:Ef i17 i18 true v=[bv (decide (v<=min (i17+1) 32767)),nv (min (i17+1) 32767),bv true]:=(by unfold Ef;rw [Ad ⟨rfl,h0⟩]);rw [e];exact Aa (q_ (x:=i17) (y:=1) (by omega) (by omega)) rfl (Aa (r:=.int .i64 (min (i17+1) 32767)) rfl rfl (Aa (Ba ..) rfl (Ar (CV _) rfl rfl (DL rfl))));have h0:i18≠0:=(by simpa using h);have e:Ef i17 i18 true v=[bv (decide (v<=i17)),nv i17,bv true]:=(by unfold Ef;rw [Ab (λq=>h0 q.2)]);rw [e];exact Aa (Ba ..) rfl (Ar (CV _) rfl rfl (DL rfl))
def tj {mem:List FV} (hm:Aj mem) (inn:Bool) (v:Int):
  A6 128 IY (Ay f_ mem++[.bool inn,.int .i64 v]) (FG (E5 (F1 mem 20) inn)):=by
 obtain ⟨m0,m1,m2,m3,m4,m5,m6,m7,m8,m9,m10,m11,m12,m13,m14,m15,m16,m17,m18,m19,m20,rfl⟩:=ED hm.len;have hm':=Aj.of.1 hm;obtain ⟨⟨k0,k1,k2,k3,k4,k5,k6,k7,k8,k9,k10,k11,k12,k13,k14,k15,k16,k17,k18,k19,k20⟩,t0,t1,t2,t3,t4,t5,t6,t7,t8,t9,GN,t11,t12,t8,Fj,F9,t16,F8,Gb,Jd,t45⟩:=hm';obtain ⟨i19,rfl,h19⟩:=E_ Jd k19 (by decide);obtain ⟨i20,rfl,h20⟩:=E_ t45 k20 (by decide);show A6 128 IY _ (FG (E5 i20 inn));refine BU zr fC rfl rfl (by kernel_rfl) λY hf hg=>?_;unfold fC;refine Aa (r:=.bool false) rfl rfl (AC (t:=false) rfl (λh=>by cases h) (λ_=>?_));refine Aa (r:=.bool false) rfl rfl (AC (t:=false) rfl (λh=>by cases h) (λ_=>?_));refine Aa (Av ..) rfl (Ar (CV inn) rfl rfl ?_);cases inn with
 |false=>exact AC (t:=false) rfl (λh=>by cases h) (λ_=>Ar (CV false) rfl rfl (DL rfl))
 |true=>refine AC (t:=true) rfl (λ_=>Aa (Ib ..) rfl (Ar (CV _) rfl rfl ?_)) (λh=>by cases h);have e:E5 i20 true=[bv (!!decide (i20=0)),bv true]:=(by unfold E5;rw [Bool.not_not];rfl);rw [e];exact DL rfl
def Rh (m:List FV):Nat->List AV->Prop:=λ_ ws=>ws=[b_ m]
def ci {m:List FV} {x:List FV} {hv:List AV} {Y:Sy} {L:List (Nat->List AV->Prop)} (h:Am Y.v hv=[b_ x]) (e:m=x):AB Tryz.prog (QF (Rh m)) L Y (.done (.tup (.int .i64 0::hv))):=
 Ai (j:=0) (by rw [h];simp only [Ak,okC,x_]) (by rw [e];exact h)
def YE {ls:List AV} {kd ad:Int} (h1:ls[1]? =some (.int .i64 kd)) (h2:ls[2]? =some (.int .i64 ad)) {B:World} {pr:Nat->Prop} {E:Ag} {w:World} {us:List Value} (h:∀(i:Nat) (a:AV),ls[i]? =some a->E.sy (64+i)=some a)
  (hr:Ao B pr E (Ed.ent.heap 64) w) (hc:Ah E (CE 64 (DB Ed.ent.slots)) us):Ao B pr E Ez w/\Ah E (Rk kd ad) us:=by
 refine ⟨hr,?_⟩;have e:CE 64 (DB Ed.ent.slots)=[.slx 0 3 64,.sym 65,.sym 66,.slx 1 3 67,.sym 68]:=by kernel_rfl
 rw [e]at hc;have e2:Rk kd ad=EP 2 (.int .i64 ad) (EP 1 (.int .i64 kd) [.slx 0 3 64,.sym 65,.sym 66,.slx 1 3 67,.sym 68]):=rfl;rw [e2];exact KT (a:=.sym 66) (λv hv=>S6 (h 2 _ h2) hv) 2 _ _ rfl (KT (a:=.sym 65) (λv hv=>S6 (h 1 _ h1) hv) 1 _ _ rfl hc)
def QO {l:List FV} (h:l.length=1\/l.length=2):∃a b r,l++[FV.z]=a::b::r/\l.headD FV.z=a/\l.tail.headD FV.z=b:=by rcases l with _|⟨a,_|⟨b,_|⟨c,r⟩⟩⟩;simp at h;exact ⟨_,_,_,rfl,rfl,rfl⟩;exact ⟨_,_,_,rfl,rfl,rfl⟩;simp at h
def qs {mem:List FV} (hm:Aj mem) {now:Int} (hn: -9223372036854775808<=now/\now<=9223372036854775807) {l:List FV} (hl:l.length=1\/l.length=2) (hv: -9223372036854775808<=(l.tail.headD FV.z).i/\(l.tail.headD FV.z).i<=9223372036854775807):
  A6 84 Ed [b_ mem,.int .i64 6,.int .i64 12,b_ l,.int .i64 now] (Rh (A_ now 6 mem (decide ((l.headD FV.z).i≠0)) (l.tail.headD FV.z).i)):=by
 have hc:=ri hm (decide ((l.headD FV.z).i≠0)) hv hn;obtain ⟨x,y,r,e1,e2,e3⟩:=QO hl;rw [e3]at hv;rw [e2,e3]at hc⊢;obtain ⟨m0,m1,m2,m3,m4,m5,m6,m7,m8,m9,m10,m11,m12,m13,m14,m15,m16,m17,m18,m19,m20,rfl⟩:=ED hm.len;have hop:=Np (l:=[m0,m1,m2,m3,m4,m5,m6,m7,m8,m9,m10,m11,m12,m13,m14,m15,m16,m17,m18,m19,m20]) rfl;refine K6 (c:=yL) (ex:=[]) (ag:=Rk 6 12) (H:=Ez) (n:=300) (t:=oO) mo ov rfl (λY=>Ck _) rfl (λB pr E w us h _ hr hc=>YE rfl rfl h hr hc) (by kernel_rfl) λY hf hg=>?_;unfold oO;have ha:=L4 l FV.z (by omega);rw [e1]at ha;refine Aa ha (x_ _) (B3 hop rfl (A5 B2 _) ?_);refine Aa rfl rfl (Aa (r:=.int .i64 x.i) rfl rfl (Aa (Av ..) rfl (Aa rfl rfl (Aa (r:=.int .i64 y.i) rfl rfl ?_))));have e4:decide (x.i≠0)= !decide (x.i=0):=by rw [decide_not]
 rw [e4]at hc⊢;refine Bo hc ?_ ⟨?_,trivial⟩;exact (show Ak (Ay f_ [m0,m1,m2,m3,m4,m5,m6,m7,m8,m9,m10,m11,m12,m13,m14,m15,m16,m17,m18,m19,m20]++[.bool (!decide (x.i=0)),.int .i64 y.i,.int .i64 now])=true from A5.okL_join (A5 B2 _) rfl);intro ws hws;obtain ⟨a,b,c,d,e,_⟩:=WI m14.i m15.i (!decide (x.i=0)) (v:=y.i) (now:=now) hv.2 hn (((Aj.of.1 hm).2.2.2.2.2.2.2.2.2.2.2.2.2.2.2.2.1).1.i64);have hws:ws=Ay f_ (Ep m14.i m15.i (!decide (x.i=0)) y.i now):=hws;rw [e]at hws;subst hws;exact ci (x:=[m0,m1,m2,m3,m4,m5,m6,m7,m8,m9,m10,m11,a,b,c,d,m16,m17,m18,m19,m20]) rfl (by show HC _ 12 (Ep m14.i m15.i (!decide (x.i=0)) y.i now)=_;rw [e];rfl)
def xY {mem:List FV} (hm:Aj mem) (now:Int) {l:List FV} (hl:l.length=1\/l.length=2):
  A6 84 Ed [b_ mem,.int .i64 9,.int .i64 16,b_ l,.int .i64 now] (Rh (A_ now 9 mem (decide ((l.headD FV.z).i≠0)) (l.tail.headD FV.z).i)):=by
 have hc:=JW_ hm (decide ((l.headD FV.z).i≠0)) (l.tail.headD FV.z).i now;have hd:=yy hm (decide ((l.headD FV.z).i≠0)) (l.tail.headD FV.z).i;obtain ⟨x,y,r,e1,e2,e3⟩:=QO hl;rw [e2,e3]at hc hd⊢;obtain ⟨m0,m1,m2,m3,m4,m5,m6,m7,m8,m9,m10,m11,m12,m13,m14,m15,m16,m17,m18,m19,m20,rfl⟩:=ED hm.len;have hop:=Np (l:=[m0,m1,m2,m3,m4,m5,m6,m7,m8,m9,m10,m11,m12,m13,m14,m15,m16,m17,m18,m19,m20]) rfl;refine K6 (c:=IG_) (ex:=[]) (ag:=Rk 9 16) (H:=Ez) (n:=300) (t:=fD) mo ov rfl (λY=>Ck _) rfl (λB pr E w us h _ hr hc=>YE rfl rfl h hr hc) (by kernel_rfl) λY hf hg=>?_;unfold fD;have ha:=L4 l FV.z (by omega);rw [e1]at ha;refine Aa ha (x_ _) (B3 hop rfl (A5 B2 _) ?_);refine Aa rfl rfl (Aa (r:=.int .i64 x.i) rfl rfl (Aa (Av ..) rfl (Aa rfl rfl (Aa (r:=.int .i64 y.i) rfl rfl ?_))));have e4:decide (x.i≠0)= !decide (x.i=0):=by rw [decide_not]
 rw [e4]at hc hd⊢;refine Bo hc ?_ ⟨?_,trivial⟩;exact (show Ak (Ay f_ [m0,m1,m2,m3,m4,m5,m6,m7,m8,m9,m10,m11,m12,m13,m14,m15,m16,m17,m18,m19,m20]++[.bool (!decide (x.i=0)),.int .i64 y.i,.int .i64 now])=true from A5.okL_join (A5 B2 _) rfl);intro ws hws;have hws:ws=Ay f_ [m16,m17,m18]:=hws;subst hws;refine Aa rfl rfl (Aa (r:=.int .i64 x.i) rfl rfl (Aa (Av ..) rfl (Aa rfl rfl (Aa (r:=.int .i64 y.i) rfl rfl ?_))));refine Bo hd ?_ ⟨?_,trivial⟩;exact (show Ak (Ay f_ [m0,m1,m2,m3,m4,m5,m6,m7,m8,m9,m10,m11,m12,m13,m14,m15,m16,m17,m18,m19,m20]++[.bool (!decide (x.i=0)),.int .i64 y.i])=true from A5.okL_join (A5 B2 _) rfl);intro ws hws;obtain ⟨a,b,c,e,_⟩:=Yw m18.i (!decide (x.i=0)) y.i (jc hm);have hws:ws=Ay f_ (Ef m17.i m18.i (!decide (x.i=0)) y.i):=hws;rw [e]at hws;subst hws;exact ci (x:=[m0,m1,m2,m3,m4,m5,m6,m7,m8,m9,m10,m11,m12,m13,m14,m15,a,b,c,m19,m20]) rfl (by show HC _ 16 (Ef m17.i m18.i (!decide (x.i=0)) y.i)=_;rw [e];rfl)
def ud {mem:List FV} (hm:Aj mem) (now:Int) {l:List FV} (hl:l.length=1\/l.length=2):
  A6 84 Ed [b_ mem,.int .i64 11,.int .i64 19,b_ l,.int .i64 now] (Rh (A_ now 11 mem (decide ((l.headD FV.z).i≠0)) (l.tail.headD FV.z).i)):=by
 have hc:=JX_ hm (decide ((l.headD FV.z).i≠0)) (l.tail.headD FV.z).i now;have hd:=tj hm (decide ((l.headD FV.z).i≠0)) (l.tail.headD FV.z).i;obtain ⟨x,y,r,e1,e2,e3⟩:=QO hl;rw [e2,e3]at hc hd⊢;obtain ⟨m0,m1,m2,m3,m4,m5,m6,m7,m8,m9,m10,m11,m12,m13,m14,m15,m16,m17,m18,m19,m20,rfl⟩:=ED hm.len;have hop:=Np (l:=[m0,m1,m2,m3,m4,m5,m6,m7,m8,m9,m10,m11,m12,m13,m14,m15,m16,m17,m18,m19,m20]) rfl;refine K6 (c:=yY) (ex:=[]) (ag:=Rk 11 19) (H:=Ez) (n:=300) (t:=gb) mo ov rfl (λY=>Ck _) rfl (λB pr E w us h _ hr hc=>YE rfl rfl h hr hc) (by kernel_rfl) λY hf hg=>?_;unfold gb;have ha:=L4 l FV.z (by omega);rw [e1]at ha;refine Aa ha (x_ _) (B3 hop rfl (A5 B2 _) ?_);refine Aa rfl rfl (Aa (r:=.int .i64 x.i) rfl rfl (Aa (Av ..) rfl (Aa rfl rfl (Aa (r:=.int .i64 y.i) rfl rfl ?_))));have e4:decide (x.i≠0)= !decide (x.i=0):=by rw [decide_not]
 rw [e4]at hc hd⊢;refine Bo hc ?_ ⟨?_,trivial⟩;exact (show Ak (Ay f_ [m0,m1,m2,m3,m4,m5,m6,m7,m8,m9,m10,m11,m12,m13,m14,m15,m16,m17,m18,m19,m20]++[.bool (!decide (x.i=0)),.int .i64 y.i,.int .i64 now])=true from A5.okL_join (A5 B2 _) rfl);intro ws hws;have hws:ws=Ay f_ [m19,m20]:=hws;subst hws;refine Aa rfl rfl (Aa (r:=.int .i64 x.i) rfl rfl (Aa (Av ..) rfl (Aa rfl rfl (Aa (r:=.int .i64 y.i) rfl rfl ?_))));refine Bo hd ?_ ⟨?_,trivial⟩;exact (show Ak (Ay f_ [m0,m1,m2,m3,m4,m5,m6,m7,m8,m9,m10,m11,m12,m13,m14,m15,m16,m17,m18,m19,m20]++[.bool (!decide (x.i=0)),.int .i64 y.i])=true from A5.okL_join (A5 B2 _) rfl);intro ws hws;obtain ⟨a,b,e,_⟩:=(⟨_,_,rfl,trivial⟩:∃a b,E5 m20.i (!decide (x.i=0))=[a,b]/\True);have hws:ws=Ay f_ (E5 m20.i (!decide (x.i=0))):=hws;rw [e]at hws;subst hws;exact ci (x:=[m0,m1,m2,m3,m4,m5,m6,m7,m8,m9,m10,m11,m12,m13,m14,m15,m16,m17,m18,a,b]) rfl (by show HC _ 19 (E5 m20.i (!decide (x.i=0)))=_;rw [e];rfl)
def xK {mem:List FV} (hm:Aj mem) {now:Int} (hn: -9223372036854775808<=now/\now<=9223372036854775807) {kd ad:Int} {ks:List Int} (hb:M0 kd ad ks) {l:List FV} (hk:l.length=ks.length) (hv: -9223372036854775808<=(l.tail.headD FV.z).i/\(l.tail.headD FV.z).i<=9223372036854775807):
  A6 84 Ed [b_ mem,.int .i64 kd,.int .i64 ad,b_ l,.int .i64 now] (Rh (A_ now kd mem (decide ((l.headD FV.z).i≠0)) (l.tail.headD FV.z).i)):=by
 have hl:l.length=1\/l.length=2:=by rcases hb with ⟨_,_,rfl⟩|⟨_,_,rfl⟩|⟨_,_,rfl⟩<;>simp at hk<;>omega
 rcases hb with ⟨rfl,rfl,_⟩|⟨rfl,rfl,_⟩|⟨rfl,rfl,_⟩;exact qs hm hn hl hv;exact xY hm now hl;exact ud hm now hl
def QQ:VC:=⟨⟨[],[]⟩,[],[(1,[⟨[(3,.ptr 2 0),(0,.ptr 0 0)],[(2,[68,69,70,71,72,73,74,75,76,77,78,79,80,81,82,83,84,85,86,87,88,89,90,91,92,93,94]),(0,[.slx 1 3 0,65,.slx 1 0 0,67])],3,2,[⟨1,3,0,0,(some 0)⟩],[],[]⟩]),(3,[⟨[(14,.slx 3 3 0),(15,.slx 1 0 0),(0,.ptr 0 0),(3,.ptr 2 0)],[(0,[.ptx 1 64 3 0,65,66,67]),(2,[68,69,70,71,72,73,74,75,76,77,78,79,80,81,82,83,84,85,86,87,88,89,90,91,92,93,94])],4,2,[⟨3,3,0,14,none⟩],[],[(1,64)]⟩])],2,true,[(134,CW),(84,Ed),(49,Mb)]⟩
def Js:VT:=Iq 68 1 95 (Cf 134 CW ([64]++Af 79 10) 96 4<|It Q7 [110,J 0] 111 (.chk (.nn 64)<|Dn [64,66,110])<|Iq 69 3 112 (Li Qg [78,J 0] 113<|.lt Qm [113] 114 (some 10)<|Cf 134 CW ([64]++Af 114 10) 124 4<|It Q7 [138,J 0] 139 (.chk (.nn 64)<|Dn [64,66,138])<|It Z8 [136,J 0] 140 (.chk (.nn 64)<|Dn [64,66,J 6])<|It Qu [136,74] 141 (.chk (.nn 64)<|Dn [64,66,J 6])<|Li Qr [73,136] 142<|Li Q2 [64,142] 143<|Li Z1 [64,143,.agg [107,108,109]] 144<|.chk (.same 64 144)<|.chk (.nn 144)<|Dn [144,66,J 0])<|Li Q2 [64,73] 113<|Li Z1 [64,113,.agg [107,108,109]] 114<|.chk (.same 64 114)<|.chk (.nn 114)<|Dn [114,66,J 0])<|Iq 68 2 96 (Cf 134 CW ([64]++Af 79 10) 97 4<|It Q7 [111,J 0] 112 (.chk (.nn 64)<|Dn [64,66,111])<|It Qc [109,J 0] 113 (Cf 49 Mb [64,65,66,67,89] 114 3<|.chk (.nn 119)<|Dn [119,120,121])<|Cf 49 Mb [64,65,66,67,90] 114 3<|.chk (.nn 119)<|Dn [119,120,121])<|Iq 68 3 97 (.chk (.nn 64)<|.loop 98 0 [64,66] (.cons 2 (Li Q3 [99,J 1] 100<|It Zu [100,67] 101 (.chk (.nn 98)<|Dn [98,100,J 8])<|Cf 134 CW ([98]++Af 79 10) 102 4<|It Q7 [116,J 0] 117 (.chk (.nn 98)<|Dn [98,100,116])<|It Qt [114,J 0] 118 (.chk (.nn 98)<|Dn [98,100,116])<|Cf 49 Mb [98,65,100,67,89] 119 3<|It Q7 [126,J 0] 127 (.chk (.nn 124)<|Dn [124,125,126])<|.chk (.nn 124)<|.again 0 0 [124,125]) .nil))<|.loop 98 0 [.nsl,J 0] (.cons 2 (Li Qh [94] 100<|It Q5 [99,100] 101 (Li Qg [94,99] 102<|.lt Qm [102] 103 (some 10)<|Cf 134 CW ([64]++Af 103 10) 113 4<|It Q7 [127,J 0] 128 (.chk (.nn 64)<|Dn [64,66,127])<|Li Qe [98,.agg [124,125,126]] 129<|Li Q3 [99,J 1] 130<|.again 0 0 [129,130])<|Cf 84 Ed [64,92,93,98,65] 102 1<|.chk (.same 64 107)<|.chk (.nn 107)<|Dn [107,66,J 0]) .nil)
def ux:VC:=⟨⟨[],[]⟩,[],[(0,[⟨[(5,.slx 0 0 0),(1,68),(0,.ptr 0 0)],[(0,[.slx 1 3 1,65,.slx 2 0 0,67])],2,3,[⟨1,3,1,0,(some 0)⟩],[],[]⟩])],2,true,[(90,KJ)]⟩
def dC:VT:=.chk (.nn 64)<|.loop 69 0 [J 0,64,66] (.cons 3 (Li Zs [68] 72<|It Q5 [69,72] 73 (Li U4 [68,69] 74<|.lt U5 [74] 75 (some 27)<|Cf 90 KJ ([70,65,71,67]++Af 75 27) 102 3<|It Q7 [135,J 0] 136 (.chk (.nn 133)<|Dn [133,134,135])<|Li Q3 [69,J 1] 137<|.chk (.nn 133)<|.again 0 0 [137,133,134])<|.chk (.nn 70)<|Dn [70,71,J 0]) .nil)
def xL:VC:=⟨⟨[],[]⟩,[],[],0,true,[(49,Mb)]⟩
def F8:VT:=Li Qe [.vsl 0 3 [],66] 69<|Cf 49 Mb [69,67,J 0,68,65] 70 3<|Dn [75,77]
def VP:Vz Tryz.prog 300 QQ 90 KJ=Js:=by kernel_rfl
def MD (mem:List FV) (now lp mx:Int):List AV:=[b_ mem,.int .i64 now,.int .i64 lp,.int .i64 mx]
def py (mem:List FV) (now lp mx:Int) {l:List AV} (h:Ak l=true):Ak (MD mem now lp mx++l)=true:=A5.okL_join (by simp only [MD,Ak,okC,x_]) h
def Vm (mem:List FV) (now lp mx:Int) (l:List GS):Ak (MD mem now lp mx++[Y_ l])=true:=py _ _ _ _ (by simp only [Ak,EE,Bool.and_self])
def sJ (mem:List FV) (now lp mx:Int) (s:GS):Ak (MD mem now lp mx++CY s)=true:=py _ _ _ _ (Hr s)
def RD (mx:Int) (r:Dw):Nat->List AV->Prop:=λ_ ws=>ws=[b_ r.mem,.int .i64 (mx-r.left),.int .i64 r.e]
def E8 {mx:Int} {r:Dw} {m:List FV} {l e:Int} {hv:List AV} {Y:Sy} {L:List (Nat->List AV->Prop)} (h:Am Y.v hv=[b_ m,.int .i64 l,.int .i64 e]) {lf:Int} (hr:r=⟨m,lf,e⟩) (hl:mx-lf=l):AB Tryz.prog (QF (RD mx r)) L Y (.done (.tup (.int .i64 0::hv))):=
 Ai (j:=0) (by rw [h];exact qx m l e) (by subst hr;subst hl;exact h)
def aL (now mx:Int) (d:Nat):Prop:=∀(l:List GS),l.length<=5->(∀s∈l,TS d s)->∀(mem:List FV) (lp:Int),Aj mem->0<=lp->lp<=mx->A6 49 Mb (MD mem now lp mx++[Y_ l]) (RD mx (Di (R_ now d) l mem (mx-lp)))
def QH {r:Except Int FV} {v:FV} {j:Nat} {ws:List AV} (h:OD r j ws) (hr:r=.ok v):ws=f_ v++[.int .i64 0]:=by subst hr;exact h
def QB {r:Except Int FV} {e:Int} {j:Nat} {ws:List AV} (h:OD r j ws) (hr:r=.error e):ws=f_ FV.z++[.int .i64 e]:=by subst hr;exact h
def mO {mem:List FV} (hm:Aj mem) {m:Nat} (hml:m<mem.length) {v:FV} (tv:TV v) (hk:JG.getD m 0=v.k):Aj (mem.set m v):=hm.set hml tv (by rw [hm.kd hml,hk])
def wj {now mx:Int} {mem:List FV} (hm:Aj mem) {lp:Int} {to e:GX} {thn els:List GS} {nm:List UInt8} {kd ad:Int} {ag:List GX} (ht:TX 5 to) (hw:to.op=2/\(to.ad,to.kd)∈Jw\/to.op=3) (he:TX 6 e) (hk:e.kd=to.kd):
  A6 90 KJ (MD mem now lp mx++CY (.mk 1 to e thn els nm kd ad ag)) (RD mx (FF to e mem (mx-lp))):=by
 have hlen:=hm.len;have h23:=Nw hm 6 e he;have hkept:=λv hv=>R6 hm 6 e he v hv;have hA:=λv a=>EW_ (mem:=mem) (left:=mx-lp) (to:=to) (e:=e) (v:=v) (a:=a);have hB:=λv er=>Dn_ (mem:=mem) (left:=mx-lp) (to:=to) (e:=e) (v:=v) (er:=er);have hC:=λv=>tV (mem:=mem) (left:=mx-lp) (to:=to) (e:=e) (v:=v);have hSe:=λer=>EX_ (mem:=mem) (left:=mx-lp) (to:=to) (e:=e) (er:=er);have hEe:=λer=>y_ (mem:=mem) e er;have hpo:=λa=>oz (mem:=mem) ht (a:=a);obtain ⟨z1,z2,z3,z4,z5,z6,z7,z8,z9,z10⟩:=to;have hq:=ht.2.2.2.2.1.2.2.1;have hsub:=ht.2.2.2.2.2;have hla:lp=mx-(mx-lp):=by omega
 obtain ⟨e1,e2,e3,e4,e5,e6,e7,e8,e9,e10⟩:=e;refine NG (c:=QQ) (n:=300) (t:=Js) mo ov rfl (λY _=>Ck _) VP λY hf hg=>?_;unfold Js;refine Aa (r:=.bool true) rfl rfl (AC (t:=true) rfl (λ_=>?_) (λh=>by cases h));refine Bo h23 (NV mem (.mk e1 e2 e3 e4 e5 e6 e7 e8 e9 e10)) ⟨?_,trivial⟩;intro ws hws;cases hv:o_ mem (.mk e1 e2 e3 e4 e5 e6 e7 e8 e9 e10)with
 |error er=>
  obtain rfl:=QB hws hv;have:=hEe er hv
  (refine i_ rfl rfl ?_ ?_<;>intro h<;>simp only [nc]at h<;>try omega)
  exact Cg (Ec hm) (E8 rfl (hSe er hv) (by omega))
 |ok v=>
  obtain rfl:=QH hws hv;obtain ⟨tv,vk⟩:=hkept v hv
  (refine i_ rfl rfl ?_ ?_<;>intro h<;>simp only [nc]at h<;>try omega)
  (refine i_ rfl rfl ?_ ?_<;>intro h<;>simp only [nc]at h<;>try omega)
  .have h3:=h;obtain ⟨q1,q2,q3,k,q4,q5⟩:=hq h3;obtain ⟨y,rfl,yk⟩:=lP q4;have hy:=hsub y (List.mem_singleton.2 rfl);have hz:=Nw hm 4 y hy;have hld:=Jf [y] (i:=0) (by simp);have hyE:=λer=>y_ (mem:=mem) y er;have hpl:∀r,o_ mem y=r->Ip mem (.mk z1 z2 z3 z4 z5 z6 z7 z8 z9 [y])=(match r with| .error e=>.error e| .ok a=>if a.i<0\/z6<=a.i then .error 6 else .ok (z5+a.i)):=λr hr=>by
    cases r with
    |error e=>simp only [Ip,zK_ hr]
    |ok a=>simp only [Ip,AU_ hr,List.headD_cons];rfl
   refine Aa (O_ [y] (i:=0) (by simp)) (A5 BT _) ?_;rcases hzz:y with ⟨zo,zk,znm,zfd,zad,zn,zvk,zvi,zvf,za⟩;rw [hzz]at hld hz hyE hpl;refine B3 hld rfl (BT (.mk zo zk znm zfd zad zn zvk zvi zvf za)) (Bo hz (NV mem (.mk zo zk znm zfd zad zn zvk zvi zvf za)) ⟨?_,trivial⟩);intro ws hws;cases ha:o_ mem (.mk zo zk znm zfd zad zn zvk zvi zvf za)with
   |error er=>
    obtain rfl:=QB hws ha;have:=hyE er ha;have hp:=hpl _ ha;rw [hzz]at hB
    (refine i_ rfl rfl ?_ ?_<;>intro h<;>simp only [nc]at h<;>try omega)
    exact Cg (Ec hm) (E8 rfl (hB v er h3 hv hp) (by omega))
   |ok a=>
    obtain rfl:=QH hws ha;have hp:=hpl _ ha;simp only at hp;rw [hzz]at hA hB hpo
    (refine i_ rfl rfl ?_ ?_<;>intro h<;>simp only [nc]at h<;>try omega)
    (refine i_ rfl rfl ?_ ?_<;>intro h<;>simp only [nc]at h<;>try omega)
    rw [Ad (.inl h)]at hp;exact Cg (Ec hm) (E8 rfl (hB v 6 h3 hv hp) (by omega))
    (refine i_ rfl rfl ?_ ?_<;>intro h<;>simp only [nc]at h<;>try omega)
    rw [Ad (.inr h)]at hp;exact Cg (Ec hm) (E8 rfl (hB v 6 h3 hv hp) (by omega));rw [Ab (by omega)]at hp;obtain ⟨b1,b2,b3⟩:=hpo _ h3 hp;have hS:=hA v _ h3 hv hp;obtain ⟨m,em⟩:∃m:Nat,z5+a.i=(m:Int):=⟨(z5+a.i).toNat,by omega⟩;have hml:m<mem.length:=(by omega);rw [em,Int.toNat_natCast]at hS;refine Aa (q_ (by omega) (by omega)) rfl ?_;rw [em];have hm2:=mO hm hml tv (by have b3:z2=2:=b3;have hk:e2=z2:=hk;have vk:v.k=e2:=vk;rw [vk,hk,b3];rcases (by omega:m=8\/m=9\/m=10\/m=11)with rfl|rfl|rfl|rfl<;>rfl);exact Aa (D_ mem hml) rfl (Aa (J3 mem hml v) (x_ _) (Cg (RV mem m v) (Cg (Ec hm2) (E8 rfl hS (by omega)))))
  have h3:=h;have hw':z1=2/\(z5,z2)∈Jw:=(by rcases hw with hw|hw;exact hw;exact absurd hw h3);obtain ⟨q1,q2,q3⟩:=JZ _ hw'.2;simp only at q1 q2 q3;obtain ⟨m,rfl⟩:∃m:Nat,z5=(m:Int):=⟨z5.toNat,by omega⟩;have hml:m<mem.length:=(by omega);have hS:FF _ _ mem (mx-lp)=⟨mem.set m v,mx-lp,0⟩:=hC v h3 hv;have hm2:=mO hm hml tv (by have hk:e2=z2:=hk;have vk:v.k=e2:=vk;rw [vk,hk];exact q3);exact Aa (D_ mem hml) rfl (Aa (J3 mem hml v) (x_ _) (Cg (RV mem m v) (Cg (Ec hm2) (E8 rfl hS (by omega)))))
def JQ_ {now mx:Int} (hx:mx<=100000) {d:Nat} (hn: -9223372036854775808<=now/\now<=9223372036854775807) (ih:aL now mx d) {mem:List FV} (hm:Aj mem) {lp:Int} (hl:0<=lp) (hl2:lp<=mx) {to e:GX} {thn els:List GS} {nm:List UInt8} {kd ad:Int} {ag:List GX} (he:TX 5 e) (h4:thn.length<=5) (h5:els.length<=5) (h6:∀s∈thn,TS d s) (h7:∀s∈els,TS d s):
  A6 90 KJ (MD mem now lp mx++CY (.mk 2 to e thn els nm kd ad ag)) (RD mx (R_ now (d+1) (.mk 2 to e thn els nm kd ad ag) mem (mx-lp))):=by
 have h23:=Nw hm 5 e he;have hEe:=λer=>y_ (mem:=mem) e er;have hR:∀r,o_ mem e=r->R_ now (d+1) (.mk 2 to e thn els nm kd ad ag) mem (mx-lp)=(match r with| .error er=>⟨mem,mx-lp,er⟩| .ok v=>Di (R_ now d) (if v.i≠0 then thn else els) mem (mx-lp)):=λr hr=>by rw [R_,Ab (by decide),Ad rfl,hr]<;>rfl
 have hk:∀l,(∀s∈l,TS d s)->BB mem (mx-lp) (Di (R_ now d) l mem (mx-lp)):=λl ht=>On (f:=R_ now d) l mem (mx-lp) (λs hs m l hm hl=>NO hn d s (ht s hs) m l hm hl) hm (by omega);obtain ⟨z1,z2,z3,z4,z5,z6,z7,z8,z9,z10⟩:=to;obtain ⟨e1,e2,e3,e4,e5,e6,e7,e8,e9,e10⟩:=e;refine NG (c:=QQ) (n:=300) (t:=Js) mo ov rfl (λY _=>Ck _) VP λY hf hg=>?_;unfold Js;refine Aa (r:=.bool false) rfl rfl (AC (t:=false) rfl (λh=>by cases h) (λ_=>?_));refine Aa (r:=.bool true) rfl rfl (AC (t:=true) rfl (λ_=>?_) (λh=>by cases h));refine Bo h23 (NV mem (.mk e1 e2 e3 e4 e5 e6 e7 e8 e9 e10)) ⟨?_,trivial⟩;intro ws hws;cases hv:o_ mem (.mk e1 e2 e3 e4 e5 e6 e7 e8 e9 e10)with
 |error er=>
  obtain rfl:=QB hws hv;have:=hEe er hv
  (refine i_ rfl rfl ?_ ?_<;>intro h<;>simp only [nc]at h<;>try omega)
  exact Cg (Ec hm) (E8 rfl (hR _ hv) (by omega))
 |ok v=>
  obtain rfl:=QH hws hv;have hR:=hR _ hv;simp only at hR
  (refine i_ rfl rfl ?_ ?_<;>intro h<;>simp only [nc]at h<;>try omega)
  (refine i_ rfl rfl ?_ ?_<;>intro h<;>simp only [nc]at h<;>try omega)
  rw [Ad h]at hR;have hk:=hk thn h6;refine Bo (ih thn h4 h6 mem lp hm hl hl2) (Vm mem now lp mx thn) ⟨?_,trivial⟩;rintro ws rfl;exact Cg (Ec hk.1) (E8 rfl hR rfl);rw [Ab (by simpa using h)]at hR;have hk:=hk els h7;refine Bo (ih els h5 h7 mem lp hm hl hl2) (Vm mem now lp mx els) ⟨?_,trivial⟩;rintro ws rfl;exact Cg (Ec hk.1) (E8 rfl hR rfl)
def zU {now mx:Int} (hx:mx<=100000) {d:Nat} (hn: -9223372036854775808<=now/\now<=9223372036854775807) (ih:aL now mx d) {mem:List FV} (hm:Aj mem) {lp:Int} (hl:0<=lp) (hl2:lp<=mx) {to e:GX} {thn els:List GS} {nm:List UInt8} {kd ad:Int} {ag:List GX} (he:TX 5 e) (h4:thn.length<=5) (h6:∀s∈thn,TS d s):
  A6 90 KJ (MD mem now lp mx++CY (.mk 3 to e thn els nm kd ad ag)) (RD mx (R_ now (d+1) (.mk 3 to e thn els nm kd ad ag) mem (mx-lp))):=by
 have h23:=λm (hm:Aj m)=>Nw hm 5 e he;have hEe:=λm er=>y_ (mem:=m) e er;have hk:=λm lf (hm:Aj m) (h:0<=lf)=>On (f:=R_ now d) thn m lf (λs hs m l hm hl=>NO hn d s (h6 s hs) m l hm hl) hm h;obtain ⟨z1,z2,z3,z4,z5,z6,z7,z8,z9,z10⟩:=to;obtain ⟨e1,e2,e3,e4,e5,e6,e7,e8,e9,e10⟩:=e;rw [R_,Ab (by decide),Ab (by decide),Ad rfl];refine NG (c:=QQ) (n:=300) (t:=Js) mo ov rfl (λY _=>Ck _) VP λY hf hg=>?_;unfold Js;refine Aa (r:=.bool false) rfl rfl (AC (t:=false) rfl (λh=>by cases h) (λ_=>?_));refine Aa (r:=.bool false) rfl rfl (AC (t:=false) rfl (λh=>by cases h) (λ_=>?_));refine Aa (r:=.bool true) rfl rfl (AC (t:=true) rfl (λ_=>?_) (λh=>by cases h));refine Cg (Ec hm) ?_;have h44:=λm l=>ih thn h4 h6 m l;generalize hbody:Di (R_ now d) thn=body at*;generalize hres:Is body (λm=>o_ m (.mk e1 e2 e3 e4 e5 e6 e7 e8 e9 e10)) ((mx-lp).toNat+1) mem (mx-lp)=res at*;refine D3 (ι:=List FV×Int) (λs=>[b_ s.1,.int .i64 s.2]) (λs=>Aj s.1/\0<=s.2/\s.2<=mx/\∃f,(mx-s.2).toNat+1<=f/\Is body (λm=>o_ m (.mk e1 e2 e3 e4 e5 e6 e7 e8 e9 e10)) f s.1 (mx-s.2)=res) (λs=>(mx-s.2).toNat) (mem,lp) ⟨hm,hl,hl2,_,Nat.le_refl _,hres⟩ rfl (λs _=>nT _ _) (λs s' _ _ h=>by simp at h;rw [h.2]) (λs hs=>?_);obtain ⟨m,l⟩:=s;obtain ⟨hm1,hl1,hl3,f,hf1,hr⟩:=hs;simp only at hm1 hl1 hl3 hf1 hr⊢;obtain ⟨n,rfl⟩:∃n,f=n+1:=⟨f-1,by omega⟩;rw [ER_]at hr;refine Aa (q_ (by omega) (by omega)) rfl ?_
 (refine i_ rfl rfl ?_ ?_<;>intro h<;>simp only [nc]at h<;>try omega)
 rw [Ad (by omega)]at hr;exact Cg (Ec hm1) (E8 rfl hr.symm (by omega));rw [Ab (by omega)]at hr;refine Bo (h23 m hm1) (NV m (.mk e1 e2 e3 e4 e5 e6 e7 e8 e9 e10)) ⟨?_,trivial⟩;intro ws hws;cases hv:o_ m (.mk e1 e2 e3 e4 e5 e6 e7 e8 e9 e10)with
 |error er=>
  obtain rfl:=QB hws hv;have:=hEe m er hv;rw [hv]at hr
  (refine i_ rfl rfl ?_ ?_<;>intro h<;>simp only [nc]at h<;>try omega)
  exact Cg (Ec hm1) (E8 rfl hr.symm (by omega))
 |ok v=>
  obtain rfl:=QH hws hv;rw [hv]at hr;simp only at hr
  (refine i_ rfl rfl ?_ ?_<;>intro h<;>simp only [nc]at h<;>try omega)
  (refine i_ rfl rfl ?_ ?_<;>intro h<;>simp only [nc]at h<;>try omega)
  rw [Ad h]at hr;exact Cg (Ec hm1) (E8 rfl hr.symm (by omega));rw [Ab h]at hr;have hkk:=hk m (mx-l-1) hm1 (by omega);have h44:=h44 m (l+1) hm1 (by omega) (by omega);rw [show mx-(l+1)=mx-l-1 by omega]at h44;generalize body m (mx-l-1)=r at*;refine Bo h44 (Vm m now (l+1) mx thn) ⟨?_,trivial⟩;rintro ws rfl
  (refine i_ rfl rfl ?_ ?_<;>intro h<;>simp only [nc]at h<;>try omega)
  rw [Ab h]at hr;exact Cg (Ec hkk.1) (E8 rfl hr.symm rfl);rw [Ad h]at hr;have:=hkk.2.2.1 h;exact Cg (Ec hkk.1) (CX rfl ⟨(r.mem,mx-r.left),⟨hkk.1,by simp only;omega,by simp only;omega,n,by simp only;omega,by simp only;rw [show mx-(mx-r.left)=r.left by omega];exact hr⟩,rfl,by simp only;omega⟩)
def vu {now mx:Int} (hn: -9223372036854775808<=now/\now<=9223372036854775807) {mem:List FV} (hm:Aj mem) {lp:Int} {to e:GX} {thn els:List GS} {nm:List UInt8} {kd ad:Int} {ag:List GX} (hb:M0 kd ad (ag.map GX.kd)) (ha:∀a∈ag,TX 5 a):
  A6 90 KJ (MD mem now lp mx++CY (.mk 4 to e thn els nm kd ad ag)) (RD mx (Od now kd ag mem (mx-lp))):=by
 have hal:ag.length<=2:=by rcases hb with ⟨_,_,h⟩|⟨_,_,h⟩|⟨_,_,h⟩<;>(have:=congrArg List.length h;simp at this;omega)
 have ih:=λ(z:GX) (hz:z∈ag)=>Nw hm 5 z (ha z hz);have hR:∀r,u_ mem ag=r->Od now kd ag mem (mx-lp)=(match r with| .error er=>⟨mem,mx-lp,er⟩| .ok l=>⟨A_ now kd mem (decide ((l.headD FV.z).i≠0)) (l.tail.headD FV.z).i,mx-lp,0⟩):=λr hr=>by unfold Od;rw [hr]<;>rfl
 obtain ⟨z1,z2,z3,z4,z5,z6,z7,z8,z9,z10⟩:=to;obtain ⟨e1,e2,e3,e4,e5,e6,e7,e8,e9,e10⟩:=e;refine NG (c:=QQ) (n:=300) (t:=Js) mo ov rfl (λY _=>Ck _) VP λY hf hg=>?_;unfold Js;refine Aa (r:=.bool false) rfl rfl (AC (t:=false) rfl (λh=>by cases h) (λ_=>?_));refine Aa (r:=.bool false) rfl rfl (AC (t:=false) rfl (λh=>by cases h) (λ_=>?_));refine Aa (r:=.bool false) rfl rfl (AC (t:=false) rfl (λh=>by cases h) (λ_=>?_));refine D3 (ι:=List FV×Nat) (λs=>[b_ s.1,.int .i64 (s.2:Int)]) (λs=>s.1.length=s.2/\s.2<=ag.length/\Iw mem ag s.1 s.2) (λs=>ag.length-s.2) ([],0) ⟨rfl,za' _,cI _ _⟩ rfl (λs _=>by simp only [Ak,okC,x_]) (λs s' _ _ h=>by simp at h;omega) (λs hs=>?_);obtain ⟨acc,i⟩:=s;obtain ⟨h1,h2,h3⟩:=hs;simp only at h1 h2 h3⊢;refine Aa (I_ ag) rfl ?_
 (refine i_ rfl rfl ?_ ?_<;>intro h<;>simp only [nc]at h<;>try omega)
 .have hi:i<ag.length:=(by omega);have hld:=Jf ag hi;have hz:=ih ag[i] (zb' hi);have hrx:=λv=>kC (v:=v) h3 hi;have hre:=λe=>ow (e:=e) h3 hi;rcases hzz:ag[i]with ⟨zo,zk,znm,zfd,zad,zn,zvk,zvi,zvf,za⟩;rw [hzz]at hld hz hrx hre;refine Aa (O_ ag hi) (A5 BT _) (B3 hld rfl (BT (.mk zo zk znm zfd zad zn zvk zvi zvf za)) ?_);refine Bo hz (NV mem (.mk zo zk znm zfd zad zn zvk zvi zvf za)) ⟨?_,trivial⟩;intro ws hws;cases hr:o_ mem (.mk zo zk znm zfd zad zn zvk zvi zvf za)with
  |error e=>
   have e0:=y_ _ _ hr;obtain rfl:=QB hws hr
   (refine i_ rfl rfl ?_ ?_<;>intro h<;>simp only [nc]at h<;>try omega)
   exact Cg (Ec hm) (E8 rfl (hR _ (hre e hr)) (by omega))
  |ok v=>
   obtain rfl:=QH hws hr
   (refine i_ rfl rfl ?_ ?_<;>intro h<;>simp only [nc]at h<;>try omega)
   exact Aa (L4 acc v (by omega)) (x_ _) (Aa (q_ (by omega) (by omega)) rfl (CX rfl ⟨(acc++[v],i+1),⟨by simp;omega,hi,hrx v hr⟩,rfl,by simp only;omega⟩))
 have hi:i=ag.length:=by omega
 subst hi;have hL:=iu h3;have hi64:=fJ hm ha hL;have hS:=hR _ hL;have hbk:=Yl hb hm (decide ((acc.headD FV.z).i≠0)) hi64.1 hn;refine Bo (xK hm hn hb (l:=acc) (by rw [List.length_map];exact h1) ⟨hi64.2,hi64.1⟩) (by show Ak [b_ mem,.int .i64 kd,.int .i64 ad,b_ acc,.int .i64 now]=true;simp only [Ak,okC,x_]) ⟨?_,trivial⟩;rintro ws rfl;exact Cg (uZ hm hbk.1) (Cg (Ec hbk.1) (E8 rfl hS (by omega)))
def mZ {now mx:Int} (hn: -9223372036854775808<=now/\now<=9223372036854775807) (hx:mx<=100000):∀d:Nat,aL now mx d
 |d,l,hL,hT,mem,lp,hm,hl,hl2=>by
  refine BU ux dC rfl rfl (by kernel_rfl) λY hf hg=>?_;unfold dC;refine Cg (Ec hm) ?_;generalize hres:Di (R_ now d) l mem (mx-lp)=res at*;refine D3 (ι:=Nat×List FV×Int) (λs=>[.int .i64 (s.1:Int),b_ s.2.1,.int .i64 s.2.2]) (λs=>s.1<=l.length/\Aj s.2.1/\0<=s.2.2/\s.2.2<=mx/\Di (R_ now d) (l.drop s.1) s.2.1 (mx-s.2.2)=res) (λs=>l.length-s.1) (0,mem,lp) ⟨za' _,hm,hl,hl2,hres⟩ rfl (λs _=>by simp only [Ak,okC,x_]) (λs s' _ _ h=>by simp at h;omega) (λs hs=>?_);obtain ⟨i,m,lf⟩:=s;obtain ⟨h1,hm1,hl1,hl3,hr⟩:=hs;simp only at h1 hm1 hl1 hl3 hr⊢;refine Aa (UJ l) rfl ?_
  (refine i_ rfl rfl ?_ ?_<;>intro h<;>simp only [nc]at h<;>try omega)
  .have hi:i<l.length:=(by omega);have hld:=YY l hi;have hs:=hT l[i] (zb' hi);rw [Cc hi,uD]at hr;have hkk:=NO hn d l[i] hs m (mx-lf) hm1 (by omega);obtain ⟨d,rfl⟩:∃e,d=e+1:=by
    cases d with
    |zero=>exact absurd hs (by cases l[i];exact id)
    |succ d=>exact ⟨d,rfl⟩
   have h76:A6 90 KJ (MD m now lf mx++CY l[i]) (RD mx (R_ now (d+1) l[i] m (mx-lf))):=(by have ih:=mZ hn hx d;rcases hss:l[i]with ⟨op,to,e,thn,els,nm,kd,ad,ag⟩;rw [hss]at hs;rcases hs with ⟨rfl,q2,q3,q4,q5,_⟩|⟨rfl|rfl,q2,_,q4,q5,q6,q7⟩|⟨rfl,q2,q3,_⟩;rw [R_,Ad rfl];exact wj hm1 q2 q3 q4 q5;exact JQ_ hx hn ih hm1 hl1 hl3 q2 q4 q5 q6 q7;exact zU hx hn ih hm1 hl1 hl3 q2 q4 q6;rw [R_,Ab (by decide),Ab (by decide),Ab (by decide)];exact vu hn hm1 q2 q3);generalize R_ now (d+1) l[i] m (mx-lf)=r at*;refine Aa (bW l hi) (A5 Hr _) ?_;generalize l[i]=s at*;obtain ⟨op,⟨z1,z2,z3,z4,z5,z6,z7,z8,z9,z10⟩,⟨e1,e2,e3,e4,e5,e6,e7,e8,e9,e10⟩,thn,els,nm,kd,ad,ag⟩:=s;refine B3 hld rfl (Hr (.mk op (.mk z1 z2 z3 z4 z5 z6 z7 z8 z9 z10) (.mk e1 e2 e3 e4 e5 e6 e7 e8 e9 e10) thn els nm kd ad ag)) ?_;refine Bo h76 (sJ m now lf mx (.mk op (.mk z1 z2 z3 z4 z5 z6 z7 z8 z9 z10) (.mk e1 e2 e3 e4 e5 e6 e7 e8 e9 e10) thn els nm kd ad ag)) ⟨?_,trivial⟩;rintro ws rfl
   (refine i_ rfl rfl ?_ ?_<;>intro h<;>simp only [nc]at h<;>try omega)
   rw [Ab h]at hr;exact Cg (Ec hkk.1) (E8 rfl hr.symm rfl);rw [Ad h]at hr;have:=hkk.2.2.1 h;exact Aa (q_ (by omega) (by omega)) rfl (Cg (Ec hkk.1) (CX rfl ⟨(i+1,r.mem,mx-r.left),⟨hi,hkk.1,by simp only;omega,by simp only;omega,by simp only;rw [show mx-(mx-r.left)=r.left by omega];exact hr⟩,rfl,by simp only;omega⟩))
  have hi:i=l.length:=(by omega);subst hi;rw [List.drop_length]at hr;exact Cg (Ec hm1) (E8 rfl hr.symm (by omega))
def qz {now:Int} (hn: -9223372036854775808<=now/\now<=9223372036854775807) {d:Nat} {l:List GS} (hL:l.length<=5) (hT:∀s∈l,TS d s) (vars:AV) (hv:okC vars=true) {mem:List FV} (hm:Aj mem) {mx:Int} (hl:0<=mx) (hl2:mx<=100000):
  A6 20 J7 [vars,Y_ l,b_ mem,.int .i64 now,.int .i64 mx] (RQ (Di (R_ now d) l mem mx)):=by
 refine BU xL F8 rfl rfl (by kernel_rfl) λY hf hg=>?_;unfold F8;refine Aa (gP hm) (x_ mem) ?_;have h44:=mZ hn hl2 d l hL hT mem 0 hm (Int.le_refl _) hl;rw [Int.sub_zero]at h44;generalize Di (R_ now d) l mem mx=res at*;refine Bo h44 (Vm mem now 0 mx l) ⟨?_,trivial⟩;rintro ws rfl;exact Ai (nT _ _) (show _=[b_ res.mem,.int .i64 res.e] from rfl)
end Go.Proofs.YtelnbodnjmldeaaGreat.vars
