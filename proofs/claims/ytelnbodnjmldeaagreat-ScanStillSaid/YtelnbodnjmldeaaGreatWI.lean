/-
  flow: what expressions come to.
-/
import Derived.Test.YtelnbodnjmldeaaGreatWD
import Derived.Test.YtelnbodnjmldeaaGreatFA
import Derived.Test.YtelnbodnjmldeaaGreatV4
set_option maxRecDepth 100000
set_option linter.unusedVariables false
set_option linter.unusedSimpArgs false
open List renaming mem_cons_self→za',mem_cons_of_mem→zb',getElem_mem→zd'
open Nat renaming zero_le→zc'
namespace Go.Proofs.YtelnbodnjmldeaaGreat.vars
open Go Go.Sx
theorem bp_ (l:List FV) {i:Nat} (hi:i<l.length):(XOp.inb).run Tryz.prog [e_ l,.int .i64 (i:Int)]=some (.int .i64 (i:Int)):=wd_ (enc:=m_) hi .i64
theorem xh_ (l:List FV) {i:Nat} (hi:i<l.length):(XOp.ldx 62 3 0).run Tryz.prog [e_ l,.int .i64 (i:Int)]=some (.agg (m_ l[i])):=
 run_ldxN (ti:=(Tryz.prog.info? 62).get!) Tryz.underlying62 rfl (by kernel_rfl) (by kernel_rfl) wt_ hi .i64
def MR (mem:List FV) (now left:Int):List AV:=[e_ mem,.int .i64 now,.int .i64 left]
def c88:VC:=⟨⟨[],[]⟩,[(130,[none])],[],1,true,[(46,ft46)]⟩
def t88:VT:=Cf 46 ft46 [64,65,J 13] 67 2<|Li (.iaddr 200) [.vsl 13 1 [J 0,J 1,J 2,J 3,.int .i64 (-1),J 7,J 32767,.int .i64 (-32768),J 2147483647,.int .i64 (-2147483648),J 100,J 9223372036854775807,.int .i64 (-9223372036854775808)],70] 72<|Li Z9 [72] 73<|.call 130 [66,73] 74 [none]<|Dn [74,71]
def c87:VC:=⟨⟨[],[]⟩,[],[],1,true,[(46,ft46)]⟩
def t87:VT:=Cf 46 ft46 [64,65,J 15] 66 2<|Li (.iaddr 199) [.vsl 15 1 [.flt .f64 0,.flt .f64 9223372036854775808,.flt .f64 4607182418800017408,.flt .f64 13830554455654793216,.flt .f64 4602678819172646912,.flt .f64 4612811918334230528,.flt .f64 13838998704956112896,.flt .f64 9094988921128908188,.flt .f64 2024,.flt .f64 9218868437227405312,.flt .f64 18442240474082181120,.nan .f64,.flt .f64 4674736413210574848,.flt .f64 4891288408196988160,.flt .f64 4636737291354636288],69] 71<|Li (.load 60) [71] 72<|Dn [72,70]
def c47:VC:=⟨⟨[],[]⟩,[],[],1,true,[(46,ft46),(87,ft87),(88,CQ_)]⟩
def t47:VT:=Iq 66 1 67 (Cf 46 ft46 [64,65,J 2] 68 2<|Dn [J 1,71,.flt .f64 0,72])<|Iq 66 5 68 (Cf 87 ft87 [64,65] 69 2<|Dn [J 5,J 0,71,72])<|Cf 88 CQ_ [64,65,66] 69 2<|Dn [66,72,.flt .f64 0,73]
def c18:VC:=⟨⟨[],[]⟩,[],[(0,[⟨[(4,.slx 0 0 0),(3,.slx 134 3 2),(0,.ptr 0 0)],[(0,[64,.slx 1 0 0])],135,3,[⟨134,3,2,3,none⟩],[],[]⟩])],1,true,[(46,ft46),(47,ft47)]⟩
def t18:VT:=.loop 66 0 [J 0,65,.vsl 21 3 [J 2,J 0,.flt .f64 0,J 1,J 0,.flt .f64 0,J 2,J 0,.flt .f64 0,J 1,J 0,.flt .f64 0,J 2,J 5,.flt .f64 0,J 3,J 0,.flt .f64 0,J 5,J 0,.flt .f64 0,J 4,J 0,.flt .f64 0,J 2,J 0,.flt .f64 0,J 2,J 0,.flt .f64 0,J 2,J 0,.flt .f64 0,J 2,J 0,.flt .f64 0,J 1,J 0,.flt .f64 0,J 4,J 0,.flt .f64 0,J 1,J 0,.flt .f64 0,J 4,J 0,.flt .f64 0,J 1,J 0,.flt .f64 0,J 2,J 0,.flt .f64 0,J 1,J 0,.flt .f64 0,J 1,J 0,.flt .f64 0,J 1,J 0,.flt .f64 0]] (.cons 3 (Li Qz [68] 69<|It Q5 [66,69] 70 (Cf 46 ft46 [64,67,J 3] 71 2<|It Qb [74,J 0] 76 (Li Q2 [68,66] 77<|Li (.ldx 3 3 0) [68,77] 78<|Cf 47 ft47 [64,75,78] 79 4<|Li Q2 [68,66] 86<|Li Z1 [68,86,.agg [82,83,84]] 87<|Li Q3 [66,J 1] 88<|.chk (.same 68 87)<|.again 0 0 [88,85,87])<|Li Q3 [66,J 1] 77<|.again 0 0 [77,75,68])<|Dn [68,67]) .nil)
def GH_ (n:Int):List AV:=[.int .i64 n]
def DM_ (o:Option Nat):List AV:=[fv o]
def W13:List Int:=[0,1,2,3,-1,7,32767,-32768,2147483647,-2147483648,100,9223372036854775807,-9223372036854775808]
def R15:List (Option Nat):=[some 0,some 9223372036854775808,some 4607182418800017408,some 13830554455654793216,some 4602678819172646912,some 4612811918334230528,some 13838998704956112896,some 9094988921128908188,some 2024,some 9218868437227405312,some 18442240474082181120,none,some 4674736413210574848,some 4891288408196988160,some 4636737291354636288]
theorem B1_:∀x∈W13,-9223372036854775808<=x/\x<=9223372036854775807:=by decide
theorem p88 {l:List UInt8} {a:AV} {n:Nat} {k:Int} (hp:Pk l a) (hn:n<=l.length) (hk:2<=k/\k<=4):CF Tryz.prog 88 CQ_ [a,.int .i64 (n:Int),.int .i64 k] (λ_ ws=>∃(r:Int) (n':Nat),ws=[.int .i64 r,.int .i64 (n':Int)]/\InK k r/\n'<=l.length):=by have hA:=hp.1.ok wG_;refine vC_ (c:=c88) (n:=300) (t:=t88) mo ov rfl (λY _=>vX_ _) (by kernel_rfl) λY hf hg=>?_;unfold t88;refine a_ (p46 (m:=13) hp hn (by decide) (by decide)) rfl (by simp only [okL,okC,hA]) ⟨?_,trivial⟩;rintro ws ⟨v,n',rfl,hv,hn'⟩;have hv':v<W13.length:=hv;have hi:=B1_ _ (zd' hv');refine VOK_lt (run_iaddr_sl (enc:=GH_) (w:=1) (e:=2) (ti:=(Tryz.prog.info? 2).get!) (l:=W13) Tryz.underlying200 (by kernel_rfl) (by kernel_rfl) (λ_=>rfl) hv' .i64) (kY_ (λ_=>rfl) _) ?_;rw [List.drop_eq_getElem_cons hv'];exact VOK_lt (s9_ Tryz.underlying2 rfl _ _) rfl (uW_ (G8_ (by omega) _) rfl rfl (VOK_fin rfl ⟨_,n',rfl,xo_ (by omega) (by omega) hi.1 hi.2,hn'⟩))
theorem D5_ (o:Option Nat) (n:Int):okL [fv o,.int .i64 n]=true:=by cases o<;>rfl
theorem p87 {l:List UInt8} {a:AV} {n:Nat} (hp:Pk l a) (hn:n<=l.length):CF Tryz.prog 87 ft87 [a,.int .i64 (n:Int)] (λ_ ws=>∃(o:Option Nat) (n':Nat),ws=[fv o,.int .i64 (n':Int)]/\n'<=l.length):=by have hA:=hp.1.ok wG_;refine vC_ (c:=c87) (n:=300) (t:=t87) mo ov rfl (λY _=>vX_ _) (by kernel_rfl) λY hf hg=>?_;unfold t87;refine a_ (p46 (m:=15) hp hn (by decide) (by decide)) rfl (by simp only [okL,okC,hA]) ⟨?_,trivial⟩;rintro ws ⟨v,n',rfl,hv,hn'⟩;have hv':v<R15.length:=hv;refine VOK_lt (run_iaddr_sl (enc:=DM_) (w:=1) (e:=60) (ti:=(Tryz.prog.info? 60).get!) (l:=R15) Tryz.underlying199 (by kernel_rfl) (by kernel_rfl) (λ_=>rfl) hv' .i64) (kY_ (λo=>by simp only [DM_,okL,v8_]) _) ?_;rw [List.drop_eq_getElem_cons hv'];exact VOK_lt (s9_ Tryz.underlying60 rfl _ _) (v8_ _) (VOK_fin (D5_ _ _) ⟨_,n',rfl,hn'⟩)
def FI_ (l:List UInt8) (k:Int):Nat->List AV->Prop:=λ_ ws=>∃(v:FV) (n':Nat),ws=m_ v++[.int .i64 (n':Int)]/\TV v/\v.k=k/\n'<=l.length
theorem p47 {l:List UInt8} {a:AV} {n:Nat} {k:Int} (hp:Pk l a) (hn:n<=l.length) (hk:1<=k/\k<=5):CF Tryz.prog 47 ft47 [a,.int .i64 (n:Int),.int .i64 k] (FI_ l k):=by
 have hA:=hp.1.ok wG_;refine vC_ (c:=c47) (n:=300) (t:=t47) mo ov rfl (λY _=>vX_ _) (by kernel_rfl) λY hf hg=>?_;unfold t47
 (refine b_ rfl rfl ?_ ?_<;>intro h<;>simp only [nc]at h<;>try omega)
 subst h;refine a_ (p46 (m:=2) hp hn (by decide) (by decide)) rfl (by simp only [okL,okC,hA]) ⟨?_,trivial⟩;rintro ws ⟨v,n',rfl,hv,hn'⟩;exact VOK_fin rfl ⟨⟨1,v,some 0⟩,n',rfl,⟨.inl ⟨rfl,by show (0:Int)<=(v:Int);omega,by show (v:Int)<=1;omega⟩,λ_=>rfl⟩,rfl,hn'⟩
 (refine b_ rfl rfl ?_ ?_<;>intro h<;>simp only [nc]at h<;>try omega)
 subst h;refine a_ (p87 hp hn) rfl (by simp only [okL,okC,hA]) ⟨?_,trivial⟩;rintro ws ⟨o,n',rfl,hn'⟩;exact VOK_fin (G1_ ⟨5,0,o⟩ _) ⟨⟨5,0,o⟩,n',rfl,⟨.inr (.inr (.inr (.inr ⟨rfl,rfl⟩))),λh=>absurd rfl h⟩,rfl,hn'⟩;refine a_ (p88 hp hn (by omega)) rfl (by simp only [okL,okC,hA]) ⟨?_,trivial⟩;rintro ws ⟨r,n',rfl,hr,hn'⟩;exact VOK_fin rfl ⟨⟨k,r,some 0⟩,n',rfl,⟨hr,λ_=>rfl⟩,rfl,hn'⟩
def BE_:List FV:=[⟨2,0,some 0⟩,⟨1,0,some 0⟩,⟨2,0,some 0⟩,⟨1,0,some 0⟩,⟨2,5,some 0⟩,⟨3,0,some 0⟩,⟨5,0,some 0⟩,⟨4,0,some 0⟩,⟨2,0,some 0⟩,⟨2,0,some 0⟩,⟨2,0,some 0⟩,⟨2,0,some 0⟩,⟨1,0,some 0⟩,⟨4,0,some 0⟩,⟨1,0,some 0⟩,⟨4,0,some 0⟩,⟨1,0,some 0⟩,⟨2,0,some 0⟩,⟨1,0,some 0⟩,⟨1,0,some 0⟩,⟨1,0,some 0⟩]
theorem BF_:MemOk BE_:=by
 refine ⟨rfl,λv hv=>?_⟩;have:∀v∈BE_,(v.k=1\/v.k=2\/v.k=3\/v.k=4\/v.k=5)/\(v.i=0\/(v.i=5/\v.k=2))/\v.f=some 0:=by intro v hv;simp only [BE_,List.mem_cons,List.not_mem_nil,or_false]at hv;rcases hv with rfl|rfl|rfl|rfl|rfl|rfl|rfl|rfl|rfl|rfl|rfl|rfl|rfl|rfl|rfl|rfl|rfl|rfl|rfl|rfl|rfl<;>simp
 obtain ⟨h1,h2,h3⟩:=this v hv;refine ⟨?_,λ_=>h3⟩;unfold InK;omega
theorem MemOk.set {mem:List FV} (h:MemOk mem) {i:Nat} (hi:i<mem.length) {v:FV} (hv:TV v) (hk:v.k=mem[i].k):MemOk (mem.set i v):=by refine ⟨?_,λu hu=>?_⟩;rw [←h.1,List.map_set,hk];apply List.ext_getElem (by simp);intro j h1 h2;rw [List.getElem_set];split;rename_i e;subst e;simp;rfl;rcases List.mem_or_eq_of_mem_set hu with hu|rfl;exact h.2 u hu;exact hv
def FG_ (l:List UInt8):Nat->List AV->Prop:=λ_ ws=>∃(mem:List FV) (n':Nat),ws=[e_ mem,.int .i64 (n':Int)]/\MemOk mem/\n'<=l.length
theorem AQ_ (l:List FV) {i:Nat} (hi:i<l.length):(XOp.ldx 3 3 0).run Tryz.prog [e_ l,.int .i64 (i:Int)]=some (.int .i64 l[i].k):=
 run_ldx1 (enc:=m_) Tryz.underlying3 rfl wt_ hi (p:=[]) (r:=[.int .i64 l[i].i,fv l[i].f]) rfl rfl .i64
theorem vY_ (l:List FV) {i:Nat} (hi:i<l.length) (y:FV):(XOp.stx 62 3 0).run Tryz.prog [e_ l,.int .i64 (i:Int),.agg (m_ y)]=some (e_ (l.set i y)):=
 run_stx (ti:=(Tryz.prog.info? 62).get!) wt_ hi (p:=[]) (q:=m_ l[i]) (r:=[]) (xs:=m_ y) rfl (.inl rfl) (by kernel_rfl) (by rw [wt_];kernel_rfl) (wy_ (okV _)) (by simp) rfl (by rw [wt_,wt_]) (by simp) .i64
theorem xj_ (l:List FV) (i:Nat) (v:FV):(some (e_ l)=some .nsl/\some (e_ (l.set i v))=some .nsl)\/∃n z cs ds,some (e_ l)=some (.vsl n z cs)/\some (e_ (l.set i v))=some (.vsl n z ds):=by
 cases l with
 |nil=>exact .inl ⟨rfl,rfl⟩
 |cons x r=>
  cases i with
  |zero=>exact .inr ⟨_,_,_,_,rfl,rfl⟩
  |succ i=>refine .inr ⟨r.length+1,3,bi_ m_ (x::r),bi_ m_ (x::r.set i v),rfl,?_⟩;show some (AV.vsl ((r.set i v).length+1) 3 _)=_;rw [List.length_set]
theorem p18 {l:List UInt8} {a:AV} {n:Nat} (hp:Pk l a) (hn:n<=l.length):CF Tryz.prog 18 ft18 [a,.int .i64 (n:Int)] (FG_ l):=by
 have hA:=hp.1.ok wG_;refine vC_ (c:=c18) (n:=300) (t:=t18) mo ov rfl (λY _=>vX_ _) (by kernel_rfl) λY hf hg=>?_;unfold t18;refine uY_ (ι:=Nat×Nat×List FV) (λs=>[.int .i64 (s.1:Int),.int .i64 (s.2.1:Int),e_ s.2.2]) (λs=>s.1<=21/\s.2.1<=l.length/\MemOk s.2.2) (λs=>21-s.1) (0,n,BE_) ⟨zc' _,hn,BF_⟩ rfl (λs _=>by simp only [okL,okC,qt_]) (λs s' _ _ h=>by simp at h;omega) (λs hs=>?_);obtain ⟨i,m,mem⟩:=s;obtain ⟨h1,h2,h3⟩:=hs;simp only at h1 h2 h3⊢;have hlen:=h3.len;refine VOK_lt (vk_ mem) rfl ?_
 (refine b_ rfl rfl ?_ ?_<;>intro h<;>simp only [nc]at h<;>try omega)
 .have hi:i<mem.length:=(by omega);refine a_ (p46 (n:=m) (m:=3) hp h2 (by decide) (by decide)) rfl (by simp only [okL,okC,hA]) ⟨?_,trivial⟩;rintro ws ⟨v,n',rfl,hv,hn'⟩
  (refine b_ rfl rfl ?_ ?_<;>intro h<;>simp only [nc]at h<;>try omega)
  have ⟨q1,q2⟩:=(h3.2 mem[i] (zd' hi)).1.kd;refine VOK_lt (bp_ mem hi) rfl (VOK_lt (AQ_ mem hi) rfl ?_);refine a_ (p47 hp hn' ⟨q1,q2⟩) rfl (by simp only [okL,okC,hA]) ⟨?_,trivial⟩;rintro ws ⟨w,n2,rfl,tw,wk,hn2⟩;refine VOK_lt (bp_ mem hi) rfl (VOK_lt (vY_ mem hi w) (qt_ _) (VOK_lt (q_ (by omega) (by omega)) rfl ?_));refine vy_ (xj_ mem i w) (uJ_ rfl ⟨(i+1,n2,mem.set i w),⟨by omega,hn2,h3.set hi tw wk⟩,rfl,by simp only;omega⟩);exact VOK_lt (q_ (by omega) (by omega)) rfl (uJ_ rfl ⟨(i+1,n',mem),⟨by omega,hn',h3⟩,rfl,by simp only;omega⟩)
 exact VOK_fin (by show okL [e_ mem,.int .i64 (m:Int)]=true;simp only [okL,okC,qt_]) ⟨mem,m,rfl,h3,h2⟩
structure RSt where
 mem:List FV
 left:Int
 e:Int
def vP_ (now at_ pt:Int):Int:=if now<=at_ then 0 else min (now-at_) pt
def bv (b:Bool):FV:=⟨1,tI b,some 0⟩
def tv (i:Int):FV:=⟨4,i,some 0⟩
def nv (i:Int):FV:=⟨2,i,some 0⟩
def wY_ (on at_:Int) (inn:Bool) (v now:Int):List FV:=
 if inn=false then [bv false,tv 0,bv false,tv 0]
 else if on=0 then [bv (decide (0=max v 0)),tv 0,bv true,tv now]
 else [bv (decide (vP_ now at_ (max v 0)=max v 0)),tv (vP_ now at_ (max v 0)),bv true,tv at_]
def wV_ (cv was:Int) (inn:Bool) (v:Int):List FV:=
 let c:=if inn=true/\was=0 then min (cv+1) 32767 else cv
 [bv (decide (v<=c)),nv c,bv inn]
def wk_ (was:Int) (inn:Bool):List FV:=[bv (inn&&decide (was=0)),bv inn]
def yr_ (mem:List FV) (at_:Nat) (cs:List FV):List FV:=mem.take at_++(cs++mem.drop (at_+cs.length))
def ci_ (mem:List FV) (n:Nat):Int:=(mem.getD n FV.z).i
def H_ (now kd:Int) (mem:List FV) (inn:Bool) (v:Int):List FV:=
 if kd=6 then yr_ mem 12 (wY_ (ci_ mem 14) (ci_ mem 15) inn v now)
 else if kd=9 then yr_ mem 16 (wV_ (ci_ mem 17) (ci_ mem 18) inn v)
 else yr_ mem 19 (wk_ (ci_ mem 20) inn)
theorem MemOk.kd {mem:List FV} (h:MemOk mem) {i:Nat} (hi:i<mem.length):mem[i].k=wo_.getD i 0:=by rw [←h.1,List.getD_eq_getElem?_getD,List.getElem?_map,List.getElem?_eq_getElem hi];rfl
theorem wr_k:∀t∈wrL,2<=t.1/\t.1<21/\wo_.getD t.1.toNat 0=t.2:=by decide
theorem vH_ {mem:List FV} (h:mem.length=21):∃m0 m1 m2 m3 m4 m5 m6 m7 m8 m9 m10 m11 m12 m13 m14 m15 m16 m17 m18 m19 m20,mem=[m0,m1,m2,m3,m4,m5,m6,m7,m8,m9,m10,m11,m12,m13,m14,m15,m16,m17,m18,m19,m20]:=by
 rcases mem with _|⟨m0,mem⟩;· simp at h
 rcases mem with _|⟨m1,mem⟩;· simp at h
 rcases mem with _|⟨m2,mem⟩;· simp at h
 rcases mem with _|⟨m3,mem⟩;· simp at h
 rcases mem with _|⟨m4,mem⟩;· simp at h
 rcases mem with _|⟨m5,mem⟩;· simp at h
 rcases mem with _|⟨m6,mem⟩;· simp at h
 rcases mem with _|⟨m7,mem⟩;· simp at h
 rcases mem with _|⟨m8,mem⟩;· simp at h
 rcases mem with _|⟨m9,mem⟩;· simp at h
 rcases mem with _|⟨m10,mem⟩;· simp at h
 rcases mem with _|⟨m11,mem⟩;· simp at h
 rcases mem with _|⟨m12,mem⟩;· simp at h
 rcases mem with _|⟨m13,mem⟩;· simp at h
 rcases mem with _|⟨m14,mem⟩;· simp at h
 rcases mem with _|⟨m15,mem⟩;· simp at h
 rcases mem with _|⟨m16,mem⟩;· simp at h
 rcases mem with _|⟨m17,mem⟩;· simp at h
 rcases mem with _|⟨m18,mem⟩;· simp at h
 rcases mem with _|⟨m19,mem⟩;· simp at h
 rcases mem with _|⟨m20,mem⟩;· simp at h
 rcases mem with _|⟨x,mem⟩;exact ⟨_,_,_,_,_,_,_,_,_,_,_,_,_,_,_,_,_,_,_,_,_,rfl⟩;simp at h
theorem MemOk.of {m0 m1 m2 m3 m4 m5 m6 m7 m8 m9 m10 m11 m12 m13 m14 m15 m16 m17 m18 m19 m20:FV}:MemOk [m0,m1,m2,m3,m4,m5,m6,m7,m8,m9,m10,m11,m12,m13,m14,m15,m16,m17,m18,m19,m20]↔(m0.k=2/\m1.k=1/\m2.k=2/\m3.k=1/\m4.k=2/\m5.k=3/\m6.k=5/\m7.k=4/\m8.k=2/\m9.k=2/\m10.k=2/\m11.k=2/\m12.k=1/\m13.k=4/\m14.k=1/\m15.k=4/\m16.k=1/\m17.k=2/\m18.k=1/\m19.k=1/\m20.k=1)/\(TV m0/\TV m1/\TV m2/\TV m3/\TV m4/\TV m5/\TV m6/\TV m7/\TV m8/\TV m9/\TV m10/\TV m11/\TV m12/\TV m13/\TV m14/\TV m15/\TV m16/\TV m17/\TV m18/\TV m19/\TV m20):=by unfold MemOk wo_;constructor;rintro ⟨h1,h2⟩;refine ⟨by simpa using h1,?_⟩;simpa using h2;rintro ⟨h1,h2⟩;refine ⟨by simpa using h1,?_⟩;simpa using h2
theorem wg_ (b:Bool):TV (bv b)/\(bv b).k=1:=⟨⟨wx_ b,λ_=>rfl⟩,rfl⟩
theorem xu_ {i:Int} (h1: -9223372036854775808<=i) (h2:i<=9223372036854775807):TV (tv i)/\(tv i).k=4:=⟨⟨.inr (.inr (.inr (.inl ⟨rfl,h1,h2⟩))),λ_=>rfl⟩,rfl⟩
theorem Dp_ {i:Int} (h1: -32768<=i) (h2:i<=32767):TV (nv i)/\(nv i).k=2:=⟨⟨.inr (.inl ⟨rfl,h1,h2⟩),λ_=>rfl⟩,rfl⟩
theorem BM_ {now at_ pt:Int} (h:0<=pt):0<=vP_ now at_ pt/\vP_ now at_ pt<=pt:=by unfold vP_;split<;>omega
theorem A8_ (on at_:Int) (inn:Bool) {v now:Int} (hv:v<=9223372036854775807) (hn: -9223372036854775808<=now/\now<=9223372036854775807) (ha: -9223372036854775808<=at_/\at_<=9223372036854775807):
  ∃a b c d,wY_ on at_ inn v now=[a,b,c,d]/\(TV a/\a.k=1)/\(TV b/\b.k=4)/\(TV c/\c.k=1)/\(TV d/\d.k=4):=by
 unfold wY_;split;exact ⟨_,_,_,_,rfl,wg_ _,xu_ (by omega) (by omega),wg_ _,xu_ (by omega) (by omega)⟩;split;exact ⟨_,_,_,_,rfl,wg_ _,xu_ (by omega) (by omega),wg_ _,xu_ hn.1 hn.2⟩;have:=BM_ (now:=now) (at_:=at_) (pt:=max v 0) (by omega);exact ⟨_,_,_,_,rfl,wg_ _,xu_ (by omega) (by omega),wg_ _,xu_ ha.1 ha.2⟩
theorem Ab_ {cv:Int} (was:Int) (inn:Bool) (v:Int) (hc: -32768<=cv/\cv<=32767):∃a b c,wV_ cv was inn v=[a,b,c]/\(TV a/\a.k=1)/\(TV b/\b.k=2)/\(TV c/\c.k=1):=by
 refine ⟨_,_,_,rfl,wg_ _,Dp_ ?_ ?_,wg_ _⟩
 .split<;>omega
 .split<;>omega
theorem zB_ {kd ad:Int} {ks:List Int} (hb:Blk kd ad ks) {mem:List FV} (hm:MemOk mem) (inn:Bool) {v now:Int} (hv:v<=9223372036854775807) (hn: -9223372036854775808<=now/\now<=9223372036854775807):
  MemOk (H_ now kd mem inn v)/\(H_ now kd mem inn v)[0]? =mem[0]? /\(H_ now kd mem inn v)[1]? =mem[1]? :=by
 obtain ⟨m0,m1,m2,m3,m4,m5,m6,m7,m8,m9,m10,m11,m12,m13,m14,m15,m16,m17,m18,m19,m20,rfl⟩:=vH_ hm.len;have hm':=MemOk.of.1 hm;obtain ⟨⟨k0,k1,k2,k3,k4,k5,k6,k7,k8,k9,k10,k11,k12,k13,k14,k15,k16,k17,k18,k19,k20⟩,t0,t1,t2,t3,t4,t5,t6,t7,t8,t9,t10,t11,t12,t13,t14,t15,t16,t17,t18,t19,t20⟩:=hm';rcases hb with ⟨rfl,_⟩|⟨rfl,_⟩|⟨rfl,_⟩;have ha:=t15.1.i64;obtain ⟨a,b,c,d,e,⟨ta,ka⟩,⟨tb,kb⟩,⟨tc,kc⟩,td,kd'⟩:=A8_ m14.i m15.i inn hv hn ha;have e2:H_ now 6 [m0,m1,m2,m3,m4,m5,m6,m7,m8,m9,m10,m11,m12,m13,m14,m15,m16,m17,m18,m19,m20] inn v=[m0,m1,m2,m3,m4,m5,m6,m7,m8,m9,m10,m11,a,b,c,d,m16,m17,m18,m19,m20]:=(by show yr_ _ 12 (wY_ m14.i m15.i inn v now)=_;rw [e];rfl);rw [e2];exact ⟨MemOk.of.2 ⟨⟨k0,k1,k2,k3,k4,k5,k6,k7,k8,k9,k10,k11,ka,kb,kc,kd',k16,k17,k18,k19,k20⟩,t0,t1,t2,t3,t4,t5,t6,t7,t8,t9,t10,t11,ta,tb,tc,td,t16,t17,t18,t19,t20⟩,rfl,rfl⟩;have hc: -32768<=m17.i/\m17.i<=32767:=(by rcases t17.1 with q|q|q|q|q<;>omega);obtain ⟨a,b,c,e,⟨ta,ka⟩,⟨tb,kb⟩,tc,kc⟩:=Ab_ m18.i inn v hc;have e2:H_ now 9 [m0,m1,m2,m3,m4,m5,m6,m7,m8,m9,m10,m11,m12,m13,m14,m15,m16,m17,m18,m19,m20] inn v=[m0,m1,m2,m3,m4,m5,m6,m7,m8,m9,m10,m11,m12,m13,m14,m15,a,b,c,m19,m20]:=(by show yr_ _ 16 (wV_ m17.i m18.i inn v)=_;rw [e];rfl);rw [e2];exact ⟨MemOk.of.2 ⟨⟨k0,k1,k2,k3,k4,k5,k6,k7,k8,k9,k10,k11,k12,k13,k14,k15,ka,kb,kc,k19,k20⟩,t0,t1,t2,t3,t4,t5,t6,t7,t8,t9,t10,t11,t12,t13,t14,t15,ta,tb,tc,t19,t20⟩,rfl,rfl⟩;have ⟨ta,ka⟩:=wg_ (inn&&decide (m20.i=0));have ⟨tb,kb⟩:=wg_ inn;have e2:H_ now 11 [m0,m1,m2,m3,m4,m5,m6,m7,m8,m9,m10,m11,m12,m13,m14,m15,m16,m17,m18,m19,m20] inn v=[m0,m1,m2,m3,m4,m5,m6,m7,m8,m9,m10,m11,m12,m13,m14,m15,m16,m17,m18,bv (inn&&decide (m20.i=0)),bv inn]:=rfl;rw [e2];exact ⟨MemOk.of.2 ⟨⟨k0,k1,k2,k3,k4,k5,k6,k7,k8,k9,k10,k11,k12,k13,k14,k15,k16,k17,k18,ka,kb⟩,t0,t1,t2,t3,t4,t5,t6,t7,t8,t9,t10,t11,t12,t13,t14,t15,t16,t17,t18,ta,tb⟩,rfl,rfl⟩
structure MS where
 pc:Int
 st:List FV
 mem:List FV
 used:Int
 now:Int
 over:Bool
 err:Int
def d_ (i:GI):Nat:=if i.op=1\/i.op=2\/i.op=20\/i.op=23 then 0 else if i.op=3\/i.op=15\/i.op=16\/i.op=17\/i.op=18\/i.op=21 then 1 else if i.op=22 then i.n.toNat else 2
def CX_ (i:GI):FV:=⟨i.vk,i.vi,some i.vf⟩
def xk_ (i:GI) (mem:List FV) (a b:FV):Except Int FV:=if i.op=1 then .ok (CX_ i)else if i.op=2 then .ok (cell mem i.ad)else w6_ mem i.op i.kd i.ad i.n a b
def yL_ (m:MS) (e:Int):MS:=⟨m.pc,m.st,m.mem,m.used+1,m.now,m.over,e⟩
def goM (m:MS) (pc:Int) (st mem:List FV):MS:=⟨pc,st,mem,m.used+1,m.now,m.over,m.err⟩
def doI (i:GI) (m:MS) (rest inn:List FV):MS:=
 if i.op<=17 then (match xk_ i m.mem (inn.headD FV.z) (inn.getLastD FV.z)with
  | .error e=>yL_ m e
  | .ok v=>goM m (m.pc+1) (rest++[v]) m.mem)
 else if i.op=18 then goM m (m.pc+1) rest (m.mem.set i.ad.toNat (inn.headD FV.z))
 else if i.op=19 then (if (inn.getLastD FV.z).i<0\/i.n<=(inn.getLastD FV.z).i then yL_ m 6 else goM m (m.pc+1) rest (m.mem.set (i.ad+(inn.getLastD FV.z).i).toNat (inn.headD FV.z)))
 else if i.op=20 then goM m i.ad rest m.mem
 else if i.op=21 then goM m (if (inn.headD FV.z).i=0 then i.ad else m.pc+1) rest m.mem
 else if i.op=22 then goM m (m.pc+1) rest (H_ m.now i.kd m.mem (decide ((inn.headD FV.z).i≠0)) (inn.tail.headD FV.z).i)
 else ⟨m.pc,rest,m.mem,m.used+1,m.now,true,m.err⟩
def w4_ (l:List GI) (m:MS):GI:=l.getD m.pc.toNat (j_ 23 0 0 0)
def f_ (l:List GI) (m:MS):MS:=if m.over=true\/m.err≠0 then m else
 doI (w4_ l m) m (m.st.take (m.st.length-d_ (w4_ l m))) (m.st.drop (m.st.length-d_ (w4_ l m)))
def TI (T:List (List Int)) (p:Nat) (i:GI) (K:List Int):Prop:=
 ∃K0 ks,K=K0++ks/\ks.length=d_ i/\K.length<=40/\(
  (∃k,T[p+1]? =some (K0++[k])/\(
    (i.op=1/\TV (CX_ i)/\i.vk=k)\/(i.op=2/\(i.ad,k)∈uy_)\/
    (i.op=3/\i.ad=8/\i.n=4/\k=2/\(ks=[2]\/ks=[3]))\/
    (i.op=17/\2<=i.kd/\i.kd<=5/\k=i.kd/\ks=[i.n]/\2<=i.n/\i.n<=5)\/
    (OpK i.op i.kd/\k=(if 9<=i.op/\i.op<=12 then 1 else i.kd)/\(ks=[i.kd]/\(i.op=15\/i.op=16)\/ks=[i.kd,i.kd]/\i.op<=14))))\/
  (T[p+1]? =some K0/\(
    (i.op=18/\∃k,ks=[k]/\(i.ad,k)∈wrL)\/
    (i.op=19/\i.ad=8/\i.n=4/\(ks=[2,2]\/ks=[2,3]))\/
    (i.op=22/\Blk i.kd i.ad ks/\i.n=(ks.length:Int))\/
    (i.op=21/\ks=[1]/\∃q:Nat,i.ad=(q:Int)/\T[q]? =some K0)))\/
  (i.op=20/\∃q:Nat,i.ad=(q:Int)/\T[q]? =some K0)\/
  i.op=23)
mutual
def tyE:List Int->GX->List (List Int)
 |K,.mk op kd nm fd ad n vk vi vf args=>xl_ K args++[K++args.map GX.kd]
def xl_:List Int->List GX->List (List Int)
 |_,[]=>[]
 |K,a::r=>tyE K a++xl_ (K++[a.kd]) r
end
mutual
theorem F_:∀(K:List Int) (x:GX),(tyE K x).length=(i_ x).length
 |K,.mk op kd nm fd ad n vk vi vf args=>by simp only [tyE,i_,List.length_append,List.length_singleton,S_ K args]
theorem S_:∀(K:List Int) (l:List GX),(xl_ K l).length=(p_ l).length
 |_,[]=>rfl
 |K,a::r=>by simp only [xl_,p_,List.length_append,F_ K a,S_ _ r]
end
mutual
theorem v1_:∀(K:List Int) (x:GX) (r:List (List Int)),(tyE K x++r)[0]? =some K
 |K,.mk op kd nm fd ad n vk vi vf args,r=>by simp only [tyE,List.append_assoc,List.singleton_append];exact we_ K args r
theorem we_:∀(K:List Int) (l:List GX) (r:List (List Int)),(xl_ K l++(K++l.map GX.kd)::r)[0]? =some K
 |K,[],r=>by simp only [xl_,List.map_nil,List.append_nil,List.nil_append];rfl
 |K,a::l,r=>by simp only [xl_,List.append_assoc];exact v1_ K a _
end
def yZ_ (k:Int):GX->List (List Int)
 | .mk op _ _ _ ad n _ _ _ args=>if op=3 then xl_ [k] args++[[k]++args.map GX.kd]else [[k]]
mutual
def tyS:GS->List (List Int)
 | .mk op to e thn els nm kd ad args=>
   if op=1 then tyE [] e++yZ_ e.kd to
   else if op=2 then (if els=[]then tyE [] e++([1]::wL_ thn)else tyE [] e++([1]::(wL_ thn++([]::wL_ els))))
   else if op=3 then tyE [] e++([1]::(wL_ thn++[[]]))
   else xl_ [] args++[args.map GX.kd]
def wL_:List GS->List (List Int)
 |[]=>[]
 |s::r=>tyS s++wL_ r
end
theorem Bd_ (k:Int) (x:GX):(yZ_ k x).length=(te_ x).length:=by obtain ⟨op,kd,nm,fd,ad,n,vk,vi,vf,args⟩:=x;simp only [yZ_,te_];split;simp only [List.length_append,List.length_singleton,S_];rfl
mutual
theorem x5_:∀(s:GS) (b:Nat),(tyS s).length=(A_ b s).length
 | .mk op to e thn els nm kd ad args,b=>by simp only [tyS,A_];split;simp only [List.length_append,F_,Bd_];split;split;simp only [List.length_append,List.length_cons,List.length_nil,F_,O_ thn (b+(i_ e).length+1)];omega;simp only [List.length_append,List.length_cons,List.length_nil,F_,O_ thn (b+(i_ e).length+1),O_ els (b+(i_ e).length+1+(g_ (b+(i_ e).length+1) thn).length+1)];omega;split;simp only [List.length_append,List.length_cons,List.length_nil,F_,O_ thn (b+(i_ e).length+1)];omega;simp only [List.length_append,List.length_cons,List.length_nil,S_]
theorem O_:∀(l:List GS) (b:Nat),(wL_ l).length=(g_ b l).length
 |[],_=>rfl
 |s::r,b=>by simp only [wL_,g_,List.length_append,x5_ s b,O_ r (b+(A_ b s).length)]
end
theorem Bc_ (s:GS) (r:List (List Int)) (h:∃d,TS d s):(tyS s++r)[0]? =some []:=by
 obtain ⟨op,to,e,thn,els,nm,kd,ad,args⟩:=s;simp only [tyS];split;rw [List.append_assoc];exact v1_ [] e _;split
 .split<;>(rw [List.append_assoc];exact v1_ [] e _)
 split;rw [List.append_assoc];exact v1_ [] e _;rw [List.append_assoc];exact we_ [] args _
theorem hU_ (l:List GS) (r:List (List Int)) (h:∀s∈l,∃d,TS d s):(wL_ l++[]::r)[0]? =some []:=by
 cases l with
 |nil=>rfl
 |cons s l=>simp only [wL_,List.append_assoc];exact Bc_ s _ (h s za')
structure Seg (l:List GI) (T:List (List Int)) (b:Nat) (s:List GI) (t:List (List Int)) (Ko:List Int):Prop where
 len:t.length=s.length
 at_:∀j,j<s.length->l[b+j]? =s[j]?
 ty:∀j,j<=s.length->T[b+j]? =(t++[Ko])[j]?
def Good (T:List (List Int)) (b:Nat) (s:List GI):Prop:=∀(j:Nat) (i:GI) (K:List Int),s[j]? =some i->T[b+j]? =some K->TI T (b+j) i K
theorem Seg.fst {l:List GI} {T:List (List Int)} {b:Nat} {s s2:List GI} {t t2:List (List Int)} {Ko K1:List Int} (h:Seg l T b (s++s2) (t++t2) Ko) (hl:t.length=s.length) (h1:(t2++[Ko])[0]? =some K1):Seg l T b s t K1:=by have hlen:=h.len;simp only [List.length_append]at hlen;refine ⟨hl,λj hj=>?_,λj hj=>?_⟩;rw [h.at_ j (by rw [List.length_append];omega),List.getElem?_append_left hj];rw [h.ty j (by rw [List.length_append];omega),List.append_assoc];by_cases e:j<t.length;rw [List.getElem?_append_left e,List.getElem?_append_left e];have e:j=t.length:=(by omega);subst e;rw [List.getElem?_append_right (Nat.le_refl _),List.getElem?_append_right (Nat.le_refl _),Nat.sub_self,h1];rfl
theorem Seg.snd {l:List GI} {T:List (List Int)} {b:Nat} {s s2:List GI} {t t2:List (List Int)} {Ko:List Int} (h:Seg l T b (s++s2) (t++t2) Ko) (hl:t.length=s.length):Seg l T (b+s.length) s2 t2 Ko:=by have hlen:=h.len;simp only [List.length_append]at hlen;refine ⟨by omega,λj hj=>?_,λj hj=>?_⟩;rw [Nat.add_assoc,h.at_ _ (by rw [List.length_append];omega),List.getElem?_append_right (by omega),Nat.add_sub_cancel_left];rw [Nat.add_assoc,h.ty _ (by rw [List.length_append];omega),List.append_assoc,List.getElem?_append_right (by omega),←hl,Nat.add_sub_cancel_left]
theorem Good.app {T:List (List Int)} {b:Nat} {s s2:List GI} (h1:Good T b s) (h2:Good T (b+s.length) s2):Good T b (s++s2):=λj i K hi hK=>by by_cases e:j<s.length;rw [List.getElem?_append_left e]at hi;exact h1 j i K hi hK;rw [List.getElem?_append_right (by omega)]at hi;obtain ⟨d,rfl⟩:∃d,j=s.length+d:=⟨j-s.length,by omega⟩;rw [Nat.add_sub_cancel_left]at hi;rw [←Nat.add_assoc]at hK⊢;exact h2 d i K hi hK
theorem Good.one {l:List GI} {T:List (List Int)} {b:Nat} {i:GI} {K Ko:List Int} (h:Seg l T b [i] [K] Ko) (hi:T[b]? =some K->T[b+1]? =some Ko->TI T b i K):Good T b [i]:=λj i' K' hi' hK=>by
 have e:j=0:=by
  cases j with
  |zero=>rfl
  |succ j=>simp at hi'
 subst e;cases hi';have h0:=h.ty 0 (zc' _);have h1:=h.ty 1 (Nat.le_refl _);rw [Nat.add_zero]at h0 hK⊢;rw [show ([K]++[Ko])[0]? =some K from rfl]at h0;rw [h0]at hK;cases hK;exact hi h0 h1
section
variable {l:List GI} {T:List (List Int)}
theorem xA_ {op kd ad n vk vi:Int} {vf:Nat} {args:List GX} (h:4<=op/\op<=14):G_ op kd ad n vk vi vf args=j_ op (kd0 args) 0 0:=by unfold G_;rw [if_neg (by omega),if_neg (by omega),if_neg (by omega),if_neg (by omega)]
theorem zV_ {i:GI} (h:4<=i.op/\i.op<=14):d_ i=2:=by unfold d_;rw [if_neg (by omega),if_neg (by omega),if_neg (by omega)]
theorem yG_ {op kd ad n vk vi:Int} {vf:Nat} {args:List GX} (h:Ari op args.length):d_ (G_ op kd ad n vk vi vf args)=args.length:=by unfold Ari at h;rcases h with ⟨rfl|rfl,h⟩|⟨rfl|rfl|rfl|rfl,h⟩|⟨h1,h⟩;rw [h];rfl;rw [h];rfl;rw [h];rfl;rw [h];rfl;rw [h];rfl;rw [h];rfl;rw [h,xA_ h1];exact zV_ h1
theorem zk_ {args:List GX} {k:Int} {r:List Int} (h:args.map GX.kd=k::r):kd0 args=k:=by
 cases args with
 |nil=>cases h
 |cons a t=>rw [List.map_cons,List.cons.injEq]at h;exact h.1
theorem A4_ {d b:Nat} {op kd:Int} {nm fd:List UInt8} {ad n vk vi:Int} {vf:Nat} {args:List GX} {K:List Int} (h:TX (d+1) (.mk op kd nm fd ad n vk vi vf args)) (hK:K.length+2<=40) (hn:T[b+1]? =some (K++[kd])):
  TI T b (G_ op kd ad n vk vi vf args) (K++args.map GX.kd):=by
 have hal:args.length<=2:=by have:=h.1;unfold Ari at this;omega
 have hL:(K++args.map GX.kd).length<=40:=by rw [List.length_append,List.length_map];omega
 obtain ⟨a1,a2,a3,a4,⟨k1,k2,k3,k4,k5,k6,k7⟩,a6⟩:=id h;refine ⟨K,args.map GX.kd,rfl,by rw [List.length_map,yG_ a1],hL,.inl ⟨kd,hn,?_⟩⟩;have ha:=a1;unfold Ari at ha;rcases ha with ⟨rfl|rfl,h0⟩|⟨rfl|rfl|rfl|rfl,h0⟩|⟨h1,h0⟩;exact .inl ⟨rfl,(Ax_ h rfl).1,(Ax_ h rfl).2⟩;exact .inr (.inl ⟨rfl,k2 rfl⟩);obtain ⟨q1,q2,q3,k,q4,q5⟩:=k3 rfl;refine .inr (.inr (.inl ⟨rfl,q1,q2,q3,?_⟩));rw [q4];rcases q5 with rfl|rfl;exact .inl rfl;exact .inr rfl
 .obtain ⟨q1,q2⟩:=k5 rfl;have e:=zk_ q2;rw [q1,q2];refine .inr (.inr (.inr (.inr ⟨?_,?_,?_⟩)));show OpK 15 (kd0 args);rw [e];unfold OpK;omega
  .show (1:Int)=if (9:Int)<=15/\(15:Int)<=12 then 1 else kd0 args
   rw [e];rfl
  show [1]=[kd0 args]/\_\/_;rw [e];exact .inl ⟨rfl,.inl rfl⟩
 .obtain ⟨q1,q2,q3⟩:=k6 rfl;have e:=zk_ q1;rw [q1];refine .inr (.inr (.inr (.inr ⟨?_,?_,?_⟩)));show OpK 16 (kd0 args);rw [e];unfold OpK;omega
  .show kd=if (9:Int)<=16/\(16:Int)<=12 then 1 else kd0 args
   rw [e];rfl
  show [kd]=[kd0 args]/\_\/_;rw [e];exact .inl ⟨rfl,.inr rfl⟩
 obtain ⟨q1,q2,k,q3,q4,q5⟩:=k7 rfl;have e:=zk_ q3;rw [q3];refine .inr (.inr (.inr (.inl ⟨rfl,q1,q2,rfl,?_,?_,?_⟩)));show [k]=[kd0 args];rw [e];show 2<=kd0 args;rw [e];exact q4;show kd0 args<=5;rw [e];exact q5
 .obtain ⟨k,q1,q2,q3,q4,q5,q6,q7,q8⟩:=k4 h1;have e:=zk_ q1;clear k1 k2 k3 k4 k5 k6 k7;rw [q1,xA_ h1];refine .inr (.inr (.inr (.inr ⟨?_,?_,?_⟩)));show OpK op (kd0 args);rw [e];unfold OpK;omega
  .show kd=if 9<=op/\op<=12 then 1 else kd0 args
   rw [e];split;omega;omega
  show [k,k]=[kd0 args]/\_\/[k,k]=[kd0 args,kd0 args]/\_;rw [e];exact .inr ⟨rfl,h1.2⟩
mutual
theorem yh_:∀(x:GX) (d:Nat),TX d x->∀(K:List Int) (b:Nat),K.length+2*d<=40->Seg l T b (i_ x) (tyE K x) (K++[x.kd])->Good T b (i_ x)
 | .mk op kd nm fd ad n vk vi vf args,0,h,_,_,_,_=>h.elim
 | .mk op kd nm fd ad n vk vi vf args,d+1,h,K,b,hK,hs=>by simp only [i_,tyE]at hs⊢;have hal:args.length<=2:=(by have:=h.1;unfold Ari at this;omega);refine Good.app (xS_ args d h.2.2.2.2.2 K b (by omega) (hs.fst (S_ K args) rfl)) ?_;exact Good.one (hs.snd (S_ K args)) λ_ h1=>A4_ h (by omega) h1
theorem xS_:∀(args:List GX) (d:Nat),(∀a∈args,TX d a)->∀(K:List Int) (b:Nat),K.length+args.length+2*d<=40->Seg l T b (p_ args) (xl_ K args) (K++args.map GX.kd)->Good T b (p_ args)
 |[],_,_,_,_,_,_=>λj i K hi _=>by simp [p_]at hi
 |a::r,d,h,K,b,hK,hs=>by simp only [p_,xl_,List.map_cons,List.length_cons]at hs hK⊢;rw [show K++a.kd::r.map GX.kd=(K++[a.kd])++r.map GX.kd by simp]at hs;refine Good.app (yh_ a d (h a za') K b (by omega) (hs.fst (F_ K a) (we_ _ r []))) ?_;exact xS_ r d (λx hx=>h x (zb' _ hx)) _ _ (by simp only [List.length_append,List.length_singleton];omega) (hs.snd (F_ K a))
end
theorem CU_ {to:GX} {k:Int} {b:Nat} (h:TX 5 to) (hw:to.op=2/\(to.ad,to.kd)∈wrL\/to.op=3) (hk:k=to.kd) (hs:Seg l T b (te_ to) (yZ_ k to) []):Good T b (te_ to):=by obtain ⟨op,kd,nm,fd,ad,n,vk,vi,vf,args⟩:=to;simp only [te_,yZ_]at hs⊢;by_cases h3:op=3;rw [if_pos h3]at hs⊢;rw [if_pos h3]at hs;have hal:args.length<=2:=(by have:=h.1;unfold Ari at this;omega);refine Good.app (xS_ args 4 h.2.2.2.2.2 [k] b (by show 1+args.length+8<=40;omega) (hs.fst (S_ _ args) rfl)) ?_;refine Good.one (hs.snd (S_ _ args)) λ_ h1=>?_;obtain ⟨q1,q2,q3,k',q4,q5⟩:=h.2.2.2.2.1.2.2.1 h3;refine ⟨[],[k]++args.map GX.kd,rfl,by rw [q4];rfl,by rw [q4];show (2:Nat)<=40;decide,.inr (.inl ⟨h1,.inr (.inl ⟨rfl,q1,q2,?_⟩)⟩)⟩;have hk:k=kd:=hk;rw [q4,hk,q3];rcases q5 with rfl|rfl;exact .inl rfl;exact .inr rfl;rw [if_neg h3]at hs⊢;rw [if_neg h3]at hs;refine Good.one hs λ_ h1=>?_;rcases hw with ⟨_,hw⟩|hw;exact ⟨[],[k],rfl,rfl,by show (1:Nat)<=40;decide,.inr (.inl ⟨h1,.inl ⟨rfl,k,rfl,by rw [hk];exact hw⟩⟩)⟩;exact absurd hw h3
theorem ty0 {b:Nat} {s:List GI} {t:List (List Int)} {Ko K:List Int} (h:Seg l T b s t Ko) (h0:(t++[Ko])[0]? =some K):T[b]? =some K:=by have:=h.ty 0 (zc' _);rw [h0]at this;exact this
theorem B0_ {b:Nat} {s:List GI} {t:List (List Int)} {Ko:List Int} (h:Seg l T b s t Ko):T[b+s.length]? =some Ko:=by rw [h.ty _ (Nat.le_refl _),List.getElem?_append_right (by rw [h.len];exact Nat.le_refl _),h.len,Nat.sub_self];rfl
theorem yD_ (i:GI) (s:List GI):i::s=[i]++s:=rfl
theorem zt_ (K:List Int) (t:List (List Int)):K::t=[K]++t:=rfl
theorem Ao_ {b:Nat} {q:Nat} (h1:T[b+1]? =some []) (hq:T[q]? =some []):TI T b (j_ 21 0 (q:Int) 0) [1]:=
 ⟨[],[1],rfl,rfl,by decide,.inr (.inl ⟨h1,.inr (.inr (.inr ⟨rfl,rfl,q,rfl,hq⟩))⟩)⟩
theorem Cd_ {b:Nat} {q:Nat} (hq:T[q]? =some []):TI T b (j_ 20 0 (q:Int) 0) []:=
 ⟨[],[],rfl,rfl,by decide,.inr (.inr (.inl ⟨rfl,q,rfl,hq⟩))⟩
mutual
theorem DS_:∀(s:GS) (d:Nat),TS d s->∀b:Nat,Seg l T b (A_ b s) (tyS s) []->Good T b (A_ b s)
 | .mk op to e thn els nm kd ad args,0,h,_,_=>h.elim
 | .mk op to e thn els nm kd ad args,d+1,h,b,hs=>by
   simp only [A_,tyS]at hs⊢;rcases h with ⟨h1,h2,h3,h4,h5,_⟩|⟨h1,h2,h3,h4,h5,h6,h7⟩|⟨h1,h2,h3,_⟩
   .simp only [if_pos h1]at hs⊢;have hh:(yZ_ e.kd to++[[]])[0]? =some [e.kd]:=by obtain ⟨op,kd,nm,fd,ad,n,vk,vi,vf,args⟩:=to;simp only [yZ_];split;rw [List.append_assoc];exact we_ [_] args _;rfl
    exact Good.app (yh_ e 6 h4 [] b (by decide) (hs.fst (F_ _ e) hh)) (CU_ h2 h3 h5 (hs.snd (F_ _ e)))
   have n1:¬op=1:=(by omega);simp only [if_neg n1]at hs⊢;have ht:∀s∈thn,∃d,TS d s:=λs hs=>⟨d,h6 s hs⟩;have he:∀s∈els,∃d,TS d s:=λs hs=>⟨d,h7 s hs⟩;rcases h1 with h1|h1;simp only [if_pos h1]at hs⊢;by_cases hn:els=[];simp only [if_pos hn,List.append_assoc,List.singleton_append]at hs⊢;have h8:=hs.fst (F_ _ e) (K1:=[1]) rfl;rw [←h3]at h8;have h9:=hs.snd (F_ _ e);rw [yD_,zt_]at h9;have h10:=h9.fst rfl (hU_ thn [] ht);have h11:=h9.snd rfl;have hend:=B0_ h11;rw [List.length_singleton]at h11 hend;refine Good.app (yh_ e 5 h2 [] b (by decide) h8) ?_;rw [yD_];refine Good.app (Good.one h10 λ_ g1=>Ao_ g1 hend) ?_;exact wC_ thn d h6 _ h11;simp only [if_neg hn,List.append_assoc,List.singleton_append,List.cons_append,List.nil_append]at hs⊢;have h8:=hs.fst (F_ _ e) (K1:=[1]) rfl;rw [←h3]at h8;have h9:=hs.snd (F_ _ e);rw [yD_,zt_]at h9;have h10:=h9.fst rfl (K1:=[]) (by rw [List.append_assoc];exact hU_ thn _ ht);have h11:=h9.snd rfl;rw [List.length_singleton]at h11;have h12:=h11.fst (O_ thn _) rfl;have h13:=h11.snd (O_ thn _);rw [yD_,zt_]at h13;have h14:=h13.fst rfl (hU_ els [] he);have h15:=h13.snd rfl;rw [List.length_singleton]at h15;have h0:=ty0 h15 (hU_ els [] he);have hend:=B0_ h15;refine Good.app (yh_ e 5 h2 [] b (by decide) h8) ?_;rw [yD_];refine Good.app (Good.one h10 λ_ g1=>Ao_ g1 h0) ?_;refine Good.app (wC_ thn d h6 _ h12) ?_;rw [yD_];refine Good.app (Good.one h14 λ_ g1=>Cd_ hend) ?_;exact wC_ els d h7 _ h15;have n2:¬op=2:=(by omega);simp only [if_neg n2,if_pos h1,List.append_assoc,List.singleton_append,List.cons_append,List.nil_append]at hs⊢;have h8:=hs.fst (F_ _ e) (K1:=[1]) rfl;have hb:=ty0 h8 (v1_ [] e _);rw [←h3]at h8;have h9:=hs.snd (F_ _ e);rw [yD_,zt_]at h9;have h10:=h9.fst rfl (K1:=[]) (by rw [List.append_assoc];exact hU_ thn _ ht);have h11:=h9.snd rfl;rw [List.length_singleton]at h11;have h12:=h11.fst (O_ thn _) rfl;have h13:=h11.snd (O_ thn _);have hend:=B0_ h13;rw [List.length_singleton]at hend;refine Good.app (yh_ e 5 h2 [] b (by decide) h8) ?_;rw [yD_];refine Good.app (Good.one h10 λ_ g1=>Ao_ g1 hend) ?_;refine Good.app (wC_ thn d h6 _ h12) ?_;exact Good.one h13 λ_ g1=>Cd_ hb;have n1:¬op=1:=(by omega);have n2:¬op=2:=(by omega);have n3:¬op=3:=(by omega);simp only [if_neg n1,if_neg n2,if_neg n3]at hs⊢;have hal:args.length<=2:=(by rcases h2 with ⟨_,_,h⟩|⟨_,_,h⟩|⟨_,_,h⟩<;>(have:=congrArg List.length h;simp at this;omega));refine Good.app (xS_ args 5 h3 [] b (by show 0+args.length+10<=40;omega) (hs.fst (S_ _ args) rfl)) ?_;refine Good.one (hs.snd (S_ _ args)) λ_ g1=>?_;refine ⟨[],args.map GX.kd,rfl,?_,by rw [List.length_map];omega,.inr (.inl ⟨g1,.inr (.inr (.inl ⟨rfl,h2,?_⟩))⟩)⟩;rw [List.length_map];rfl;show (args.length:Int)=_;rw [List.length_map]
theorem wC_:∀(x:List GS) (d:Nat),(∀s∈x,TS d s)->∀b:Nat,Seg l T b (g_ b x) (wL_ x) []->Good T b (g_ b x)
 |[],_,_,_,_=>λj i K hi _=>by simp [g_]at hi
 |s::r,d,h,b,hs=>by simp only [g_,wL_]at hs⊢;refine Good.app (DS_ s d (h s za') b (hs.fst (x5_ s b) (hU_ r [] λt ht=>⟨d,h t (zb' _ ht)⟩))) ?_;exact wC_ r d (λt ht=>h t (zb' _ ht)) _ (hs.snd (x5_ s b))
end
end
def tyP (x:List GS):List (List Int):=wL_ x++[[]]
theorem EB_ (x:List GS):Seg (w_ x) (tyP x) 0 (g_ 0 x) (wL_ x) []:=by refine ⟨O_ x 0,λj hj=>?_,λj hj=>?_⟩;rw [Nat.zero_add];exact List.getElem?_append_left hj;rw [Nat.zero_add];rfl
theorem DR_ {x:List GS} {d:Nat} (h:∀s∈x,TS d s):Good (tyP x) 0 (w_ x):=by
 refine Good.app (wC_ x d h 0 (EB_ x)) λj i K hi hK=>?_;have e:j=0:=by
  cases j with
  |zero=>rfl
  |succ j=>simp at hi
 subst e;cases hi;rw [Nat.add_zero]at hK⊢;have h0:=B0_ (EB_ x);rw [h0]at hK;cases hK;exact ⟨[],[],rfl,rfl,by decide,.inr (.inr (.inr rfl))⟩
theorem zw_ (x:List GS):(tyP x).length=(w_ x).length:=by unfold tyP w_;rw [List.length_append,List.length_append,O_ x 0];rfl
theorem Fp_ {x:List GS} {d:Nat} (h:∀s∈x,TS d s):(tyP x)[0]? =some []:=hU_ x [] λs hs=>⟨d,h s hs⟩
structure MT (l:List GI) (T:List (List Int)) (m:MS) (p:Nat) (i:GI) (K:List Int):Prop where
 pc:m.pc=(p:Int)
 at_:l[p]? =some i
 ty:T[p]? =some K
 st:m.st.map FV.k=K
 tv:∀v∈m.st,TV v
 mem:MemOk m.mem
def MTs (l:List GI) (T:List (List Int)) (m:MS):Prop:=∃p i K,MT l T m p i K
theorem MT.inst {l:List GI} {T:List (List Int)} {m:MS} {p:Nat} {i:GI} {K:List Int} (h:MT l T m p i K):w4_ l m=i:=by unfold w4_;rw [h.pc,Int.toNat_natCast,List.getD_eq_getElem?_getD,h.at_];rfl
theorem yE_ {st:List FV} {K0 ks:List Int} (h:st.map FV.k=K0++ks):(st.take (st.length-ks.length)).map FV.k=K0/\(st.drop (st.length-ks.length)).map FV.k=ks:=by
 have hl:st.length=K0.length+ks.length:=by rw [←List.length_map (f:=FV.k),h,List.length_append]
 rw [List.map_take,List.map_drop,h,hl,Nat.add_sub_cancel];exact ⟨List.take_left,List.drop_left⟩
section
variable {l:List GI} {T:List (List Int)} {m:MS} {mem:List FV}
theorem DH_ (hm:MemOk mem) {i:Int} (h1:0<=i) (h2:i<4):TV (cell mem (8+i))/\(cell mem (8+i)).k=2:=by obtain ⟨p,q⟩:=hm.cell (n:=8+i) (by omega) (by omega);refine ⟨p,q.trans ?_⟩;rcases (by omega:i=0\/i=1\/i=2\/i=3)with rfl|rfl|rfl|rfl<;>rfl
theorem zn_ {op kd ad n:Int} {a b:FV} (h3:op≠3) (h17:op≠17):w6_ mem op kd ad n a b=if opE op a.k b=0 then .ok (opV op a.k a b)else .error (opE op a.k b):=by unfold w6_;rw [if_neg h3,if_neg h17]
theorem BY_ (hm:MemOk mem) {i:GI} {k:Int} {ks:List Int} {inn:List FV} (hk:inn.map FV.k=ks) (hv:∀v∈inn,TV v)
  (h:(i.op=1/\TV (CX_ i)/\i.vk=k)\/(i.op=2/\(i.ad,k)∈uy_)\/(i.op=3/\i.ad=8/\i.n=4/\k=2/\(ks=[2]\/ks=[3]))\/
    (i.op=17/\2<=i.kd/\i.kd<=5/\k=i.kd/\ks=[i.n]/\2<=i.n/\i.n<=5)\/
    (OpK i.op i.kd/\k=(if 9<=i.op/\i.op<=12 then 1 else i.kd)/\(ks=[i.kd]/\(i.op=15\/i.op=16)\/ks=[i.kd,i.kd]/\i.op<=14)))
  {v:FV} (ht:xk_ i mem (inn.headD FV.z) (inn.getLastD FV.z)=.ok v):TV v/\v.k=k:=by
 unfold xk_ at ht;rcases h with ⟨h1,h2,h3⟩|⟨h1,h2⟩|⟨h1,h2,h3,h4,h5⟩|⟨h1,h2,h3,h4,h5,h6⟩|⟨h1,h2,h3⟩;rw [if_pos h1]at ht;cases ht;exact ⟨h2,h3⟩;rw [if_neg (by omega),if_pos h1]at ht;cases ht;obtain ⟨q1,q2,q3⟩:=cells_k _ h2;obtain ⟨p,q⟩:=hm.cell q1 q2;exact ⟨p,q.trans q3⟩;rw [if_neg (by omega),if_neg (by omega)]at ht;unfold w6_ at ht;rw [if_pos h1]at ht;split at ht;cases ht;rename_i hr;cases ht;rw [h2,h4];exact DH_ hm (by omega) (by omega);rw [if_neg (by omega),if_neg (by omega)]at ht;unfold w6_ at ht;rw [if_neg (by omega),if_pos h1]at ht;rw [h5]at hk;obtain ⟨a,rfl,ha⟩:=uN_ hk;have:=Aa_ ⟨h2,h3⟩ (hv a za') ht;exact ⟨this.1,this.2.trans h4.symm⟩;have hop:=h1;unfold OpK at hop;rw [if_neg (by omega),if_neg (by omega),zn_ (by omega) (by omega)]at ht;have key:∃a,inn.headD FV.z=a/\a.k=i.kd/\TV a:=(by rcases h3 with ⟨h3,_⟩|⟨h3,_⟩;rw [h3]at hk;obtain ⟨a,rfl,ha⟩:=uN_ hk;exact ⟨a,rfl,ha,hv a za'⟩;rw [h3]at hk;obtain ⟨a,b,rfl,ha,_⟩:=v0_ hk;exact ⟨a,rfl,ha,hv a za'⟩);obtain ⟨a,ea,hak,hat⟩:=key;rw [ea]at ht;split at ht;cases ht;rw [hak];exact ⟨C3_ h1 hat hak,(Eg_ h1).trans h2.symm⟩;cases ht
theorem wl_ {p:Nat} {K:List Int} {st:List FV} (hlen:T.length=l.length) (hp:T[p]? =some K) (hk:st.map FV.k=K) (hv:∀v∈st,TV v) (hm:MemOk mem):MTs l T (goM m (p:Int) st mem):=by
 have hpl:p<l.length:=by rw [←hlen];exact (List.getElem?_eq_some_iff.1 hp).1
 exact ⟨p,l[p],K,rfl,List.getElem?_eq_getElem hpl,hp,hk,hv,hm⟩
theorem Hp_ (hm:MemOk mem) {v:FV} (hv:TV v) (hk:v.k=2) {i:Int} (h1:0<=i) (h2:i<4):MemOk (mem.set (8+i).toNat v):=by have hl:=hm.len;refine hm.set (i:=(8+i).toNat) (by omega) hv ?_;rw [hm.kd (by omega),hk];rcases (by omega:i=0\/i=1\/i=2\/i=3)with rfl|rfl|rfl|rfl<;>rfl
theorem Hq_ (hm:MemOk mem) {v:FV} (hv:TV v) {a:Int} (h:(a,v.k)∈wrL):MemOk (mem.set a.toNat v):=by obtain ⟨q1,q2,q3⟩:=wr_k _ h;simp only at q1 q2 q3;have hl:=hm.len;refine hm.set (i:=a.toNat) (by omega) hv ?_;rw [hm.kd (by omega)];exact q3.symm
theorem BQ_ (hlen:T.length=l.length) (hG:Good T 0 l) (hn: -9223372036854775808<=m.now/\m.now<=9223372036854775807) {p:Nat} {i:GI} {K:List Int} (h:MT l T m p i K):MTs l T (f_ l m):=by
 unfold f_;split;exact ⟨p,i,K,h⟩;rw [h.inst];have hT:=hG p i K h.at_ (by rw [Nat.zero_add];exact h.ty);rw [Nat.zero_add]at hT;obtain ⟨K0,ks,rfl,hks,hK40,hT⟩:=hT;rw [←hks];obtain ⟨s1,s2⟩:=yE_ h.st;have v1:∀v∈m.st.take (m.st.length-ks.length),TV v:=λv hv=>h.tv v (List.mem_of_mem_take hv);have v2:∀v∈m.st.drop (m.st.length-ks.length),TV v:=λv hv=>h.tv v (List.mem_of_mem_drop hv);have hpc:m.pc+1=((p+1:Nat):Int):=by rw [h.pc];rfl
 have hbad:∀e,MTs l T (yL_ m e):=λe=>⟨p,i,_,h.pc,h.at_,h.ty,h.st,h.tv,h.mem⟩;have hmem:=h.mem;generalize m.st.take (m.st.length-ks.length)=rest at*;generalize m.st.drop (m.st.length-ks.length)=inn at*;unfold doI;rcases hT with ⟨k,hk,hT⟩|⟨hk,hT⟩|⟨h20,q,hq,hT⟩|h23;have h17:i.op<=17:=(by rcases hT with ⟨q,_⟩|⟨q,_⟩|⟨q,_⟩|⟨q,_⟩|⟨q,_⟩;omega;omega;omega;omega;unfold OpK at q;omega);rw [if_pos h17];split;exact hbad _;rename_i v hv;obtain ⟨t1,t2⟩:=BY_ h.mem s2 v2 hT hv;rw [hpc];refine wl_ hlen hk (by rw [List.map_append,s1,List.map_singleton,t2]) (λu hu=>?_) h.mem;rcases List.mem_append.1 hu with hu|hu;exact v1 u hu;rw [List.mem_singleton.1 hu];exact t1
 .rcases hT with ⟨h1,k,h2,h3⟩|⟨h1,h2,h3,h4⟩|⟨h1,h2,h3⟩|⟨h1,h2,q,h3,h4⟩;rw [if_neg (by omega),if_pos h1,hpc];rw [h2]at s2;obtain ⟨a,rfl,ha⟩:=uN_ s2;exact wl_ hlen hk s1 v1 (Hq_ h.mem (v2 a za') (by rw [ha];exact h3))
  .rw [if_neg (by omega),if_neg (by omega),if_pos h1,hpc];split;exact hbad _
   .rename_i hr;have:∃a b,inn=[a,b]/\a.k=2:=by rcases h4 with rfl|rfl;obtain ⟨a,b,e,ha,_⟩:=v0_ s2;exact ⟨a,b,e,ha⟩;obtain ⟨a,b,e,ha,_⟩:=v0_ s2;exact ⟨a,b,e,ha⟩
    obtain ⟨a,b,rfl,ha⟩:=this;have hr:¬(b.i<0\/i.n<=b.i):=hr;rw [h2];exact wl_ hlen hk s1 v1 (Hp_ h.mem (v2 a za') ha (i:=b.i) (by omega) (by omega))
  .rw [if_neg (by omega),if_neg (by omega),if_neg (by omega),if_neg (by omega),if_neg (by omega),if_pos h1,hpc];have hv:(inn.tail.headD FV.z).i<=9223372036854775807:=by
    match inn,v2 with
    |[],_=>show (0:Int)<=_;omega
    |[a],_=>show (0:Int)<=_;omega
    |a::b::r,v2=>exact ((v2 b (zb' _ za')).1.i64).2
   exact wl_ hlen hk s1 v1 (zB_ h2 h.mem _ hv hn).1
  rw [if_neg (by omega),if_neg (by omega),if_neg (by omega),if_neg (by omega),if_pos h1,hpc];split;rw [h3];exact wl_ hlen h4 s1 v1 h.mem;exact wl_ hlen hk s1 v1 h.mem
 rw [if_neg (by omega),if_neg (by omega),if_neg (by omega),if_pos h20,hq];exact wl_ hlen hT s1 v1 h.mem
 .rw [if_neg (by omega),if_neg (by omega),if_neg (by omega),if_neg (by omega),if_neg (by omega),if_neg (by omega)];have h0:ks=[]:=by have:d_ i=0:=(by unfold d_;rw [if_pos (by omega)]);rw [this]at hks;exact List.length_eq_zero_iff.1 hks
  subst h0;rw [List.append_nil]at h;exact ⟨p,i,K0,h.pc,h.at_,h.ty,s1,v1,h.mem⟩
end
theorem yF_ {l:List GI} {T:List (List Int)} {m:MS} (hlen:T.length=l.length) (hG:Good T 0 l) (hn: -9223372036854775808<=m.now/\m.now<=9223372036854775807) (h:MTs l T m):MTs l T (f_ l m):=by obtain ⟨p,i,K,h⟩:=h;exact BQ_ hlen hG hn h
def itI (l:List GI):Nat->MS->MS
 |0,m=>m
 |n+1,m=>itI l n (f_ l m)
def wM_ (m:MS):Prop:=m.over=true\/m.err≠0
instance (m:MS):Decidable (wM_ m):=by unfold wM_;exact inferInstance
theorem yX_ {l:List GI} {m:MS} (h:wM_ m):f_ l m=m:=by unfold f_;rw [if_pos (show m.over=true\/m.err≠0 from h)]
theorem w2_ (i:GI) (m:MS) (r n:List FV):(doI i m r n).used=m.used+1/\(doI i m r n).now=m.now:=by
 unfold doI;repeat' split
 all_goals exact ⟨rfl,rfl⟩
theorem xG_ {l:List GI} {m:MS} (h:¬wM_ m):(f_ l m).used=m.used+1:=by unfold f_;rw [if_neg (show ¬(m.over=true\/m.err≠0) from h)];exact (w2_ ..).1
theorem AX_ {l:List GI} {m:MS}:(f_ l m).now=m.now:=by unfold f_;split;rfl;exact (w2_ ..).2
def c42:VC:=⟨⟨[],[]⟩,[],[],0,true,[]⟩
def t42:VT:=It Zj [64,.nsl] 65 (Dn [.nsl])<|Li Qe [.vsl 0 3 [],64] 66<|Dn [66]
def FX_:VC:=⟨⟨[],[]⟩,[],[],2,true,[]⟩
def EN_:VT:=Li Qz [65] 71<|Li Qj [71,J 1] 72<|Li Q2 [65,72] 73<|.lt Qx [65,73] 74 (some 3)<|Li .tkx [65,65,72] 77<|Dn [64,77,67,68,69,70,74,75,76]
def FV_:VC:=⟨⟨[],[]⟩,[],[],2,true,[]⟩
def EL_:VT:=Li Qe [65,.agg [71,72,73]] 74<|Dn [64,74,67,68,69,70]
def FW_:VC:=⟨⟨[],[]⟩,[],[],2,true,[(123,J_),(160,ft160)]⟩
def EM_:VT:=Cf 123 J_ [64,65,66,67,68,69,70] 78 9<|It Z8 [92,J 0] 94 (.callF 160 ft160 [J 6] 95 (.cons 0 (Li Qr [73,92] 96<|Dn [85,86,87,88,89,90,96]) (.cons 1 (.done (.tup [J 1,96])) .nil)))<|It Qu [92,74] 95 (.callF 160 ft160 [J 6] 96 (.cons 0 (Li Qr [73,92] 97<|Dn [85,86,87,88,89,90,97]) (.cons 1 (.done (.tup [J 1,97])) .nil)))<|Li Qr [73,92] 96<|Dn [85,86,87,88,89,90,96]
def F6_:VC:=⟨⟨[],[]⟩,[],[],0,true,[]⟩
def EW_:VT:=It Q7 [64,J 0] 65 (.done (.tup [J 1,64]))<|Dn []
def Ga_:VC:=⟨⟨[],[]⟩,[],[],0,true,[]⟩
def E0_:VT:=.ite 64 (.done (.agg [J 1,J 1,.flt .f64 0]))<|.done (.agg [J 1,J 0,.flt .f64 0])
def DA_:VC:=⟨⟨[],[]⟩,[(167,[(some 3)]),(166,[none,none,none]),(165,[none]),(168,[none,none])],[],2,true,[(121,t_),(123,J_),(160,ft160)]⟩
def BS_:VT:=Cf 123 J_ [64,65,66,67,68,69,70] 78 9<|It Q1 [71,J 15] 94 (It Q1 [71,J 16] 95 (Cf 123 J_ [85,86,66,87,88,89,90] 96 9<|It Q4 [71,J 9] 112 (Li Q8 [71,J 12] 113<|Iq 72 5 114 (.call 166 [71,111,93] 115 [none,none,none]<|It Q6 [117] 118 (.callF 160 ft160 [J 4] 119 (.cons 0 (Dn [103,104,105,106,107,108]) (.cons 1 (.done (.tup [J 1,120])) .nil)))<|.ite 113 (.call 167 [116] 119 [(some 3)]<|Cf 121 t_ [103,104,66,105,106,107,108,119,120,121] 122 6<|Dn [132,133,134,135,136,137])<|Cf 121 t_ [103,104,66,105,106,107,108,J 5,J 0,115] 119 6<|Dn [129,130,131,132,133,134])<|.call 165 [72,110] 115 [none]<|.call 165 [72,92] 116 [none]<|.call 168 [71,72,115,116] 117 [none,none]<|.callF 160 ft160 [118] 119 (.cons 0 (.ite 113 (Li Qc [117,J 0] 120<|.call 167 [120] 121 [(some 3)]<|Cf 121 t_ [103,104,66,105,106,107,108,121,122,123] 124 6<|Dn [134,135,136,137,138,139])<|Cf 121 t_ [103,104,66,105,106,107,108,72,117,.flt .f64 0] 120 6<|Dn [130,131,132,133,134,135]) (.cons 1 (.done (.tup [J 1,120])) .nil)))<|Iq 72 5 113 (.call 166 [71,111,93] 114 [none,none,none]<|It Q6 [116] 117 (.callF 160 ft160 [J 4] 118 (.cons 0 (Dn [103,104,105,106,107,108]) (.cons 1 (.done (.tup [J 1,119])) .nil)))<|Cf 121 t_ [103,104,66,105,106,107,108,J 5,J 0,114] 118 6<|Dn [128,129,130,131,132,133])<|.call 165 [72,110] 114 [none]<|.call 165 [72,92] 115 [none]<|.call 168 [71,72,114,115] 116 [none,none]<|.callF 160 ft160 [117] 118 (.cons 0 (Cf 121 t_ [103,104,66,105,106,107,108,72,116,.flt .f64 0] 119 6<|Dn [129,130,131,132,133,134]) (.cons 1 (.done (.tup [J 1,119])) .nil)))<|It Q4 [71,J 9] 96 (Li Q8 [71,J 12] 97<|Iq 72 5 98 (.call 166 [71,93,93] 99 [none,none,none]<|It Q6 [101] 102 (.callF 160 ft160 [J 4] 103 (.cons 0 (Dn [85,86,87,88,89,90]) (.cons 1 (.done (.tup [J 1,104])) .nil)))<|.ite 97 (.call 167 [100] 103 [(some 3)]<|Cf 121 t_ [85,86,66,87,88,89,90,103,104,105] 106 6<|Dn [116,117,118,119,120,121])<|Cf 121 t_ [85,86,66,87,88,89,90,J 5,J 0,99] 103 6<|Dn [113,114,115,116,117,118])<|.call 165 [72,92] 99 [none]<|.call 165 [72,92] 100 [none]<|.call 168 [71,72,99,100] 101 [none,none]<|.callF 160 ft160 [102] 103 (.cons 0 (.ite 97 (Li Qc [101,J 0] 104<|.call 167 [104] 105 [(some 3)]<|Cf 121 t_ [85,86,66,87,88,89,90,105,106,107] 108 6<|Dn [118,119,120,121,122,123])<|Cf 121 t_ [85,86,66,87,88,89,90,72,101,.flt .f64 0] 104 6<|Dn [114,115,116,117,118,119]) (.cons 1 (.done (.tup [J 1,104])) .nil)))<|Iq 72 5 97 (.call 166 [71,93,93] 98 [none,none,none]<|It Q6 [100] 101 (.callF 160 ft160 [J 4] 102 (.cons 0 (Dn [85,86,87,88,89,90]) (.cons 1 (.done (.tup [J 1,103])) .nil)))<|Cf 121 t_ [85,86,66,87,88,89,90,J 5,J 0,98] 102 6<|Dn [112,113,114,115,116,117])<|.call 165 [72,92] 98 [none]<|.call 165 [72,92] 99 [none]<|.call 168 [71,72,98,99] 100 [none,none]<|.callF 160 ft160 [101] 102 (.cons 0 (Cf 121 t_ [85,86,66,87,88,89,90,72,100,.flt .f64 0] 103 6<|Dn [113,114,115,116,117,118]) (.cons 1 (.done (.tup [J 1,103])) .nil)))<|It Q4 [71,J 9] 95 (Li Q8 [71,J 12] 96<|Iq 72 5 97 (.call 166 [71,93,93] 98 [none,none,none]<|It Q6 [100] 101 (.callF 160 ft160 [J 4] 102 (.cons 0 (Dn [85,86,87,88,89,90]) (.cons 1 (.done (.tup [J 1,103])) .nil)))<|.ite 96 (.call 167 [99] 102 [(some 3)]<|Cf 121 t_ [85,86,66,87,88,89,90,102,103,104] 105 6<|Dn [115,116,117,118,119,120])<|Cf 121 t_ [85,86,66,87,88,89,90,J 5,J 0,98] 102 6<|Dn [112,113,114,115,116,117])<|.call 165 [72,92] 98 [none]<|.call 165 [72,92] 99 [none]<|.call 168 [71,72,98,99] 100 [none,none]<|.callF 160 ft160 [101] 102 (.cons 0 (.ite 96 (Li Qc [100,J 0] 103<|.call 167 [103] 104 [(some 3)]<|Cf 121 t_ [85,86,66,87,88,89,90,104,105,106] 107 6<|Dn [117,118,119,120,121,122])<|Cf 121 t_ [85,86,66,87,88,89,90,72,100,.flt .f64 0] 103 6<|Dn [113,114,115,116,117,118]) (.cons 1 (.done (.tup [J 1,103])) .nil)))<|Iq 72 5 96 (.call 166 [71,93,93] 97 [none,none,none]<|It Q6 [99] 100 (.callF 160 ft160 [J 4] 101 (.cons 0 (Dn [85,86,87,88,89,90]) (.cons 1 (.done (.tup [J 1,102])) .nil)))<|Cf 121 t_ [85,86,66,87,88,89,90,J 5,J 0,97] 101 6<|Dn [111,112,113,114,115,116])<|.call 165 [72,92] 97 [none]<|.call 165 [72,92] 98 [none]<|.call 168 [71,72,97,98] 99 [none,none]<|.callF 160 ft160 [100] 101 (.cons 0 (Cf 121 t_ [85,86,66,87,88,89,90,72,99,.flt .f64 0] 102 6<|Dn [112,113,114,115,116,117]) (.cons 1 (.done (.tup [J 1,102])) .nil))
def FY_:VC:=⟨⟨[],[]⟩,[(164,[none,none]),(165,[none])],[],2,true,[(121,t_),(123,J_),(160,ft160)]⟩
def EO_:VT:=Cf 123 J_ [64,65,66,67,68,69,70] 78 9<|Iq 72 5 94 (Iq 74 5 95 (Cf 121 t_ [85,86,66,87,88,89,90,J 5,J 0,93] 96 6<|Dn [106,107,108,109,110,111])<|Iq 72 5 96 (Li Zz [92] 97<|Cf 121 t_ [85,86,66,87,88,89,90,J 5,J 0,97] 98 6<|Dn [108,109,110,111,112,113])<|Iq 74 5 97 (.call 164 [72,93] 98 [none,none]<|.callF 160 ft160 [99] 100 (.cons 0 (Cf 121 t_ [85,86,66,87,88,89,90,72,98,.flt .f64 0] 101 6<|Dn [111,112,113,114,115,116]) (.cons 1 (.done (.tup [J 1,101])) .nil)))<|.call 165 [72,92] 98 [none]<|Cf 121 t_ [85,86,66,87,88,89,90,72,98,.flt .f64 0] 99 6<|Dn [109,110,111,112,113,114])<|Iq 72 5 95 (Li Zz [92] 96<|Cf 121 t_ [85,86,66,87,88,89,90,J 5,J 0,96] 97 6<|Dn [107,108,109,110,111,112])<|Iq 74 5 96 (.call 164 [72,93] 97 [none,none]<|.callF 160 ft160 [98] 99 (.cons 0 (Cf 121 t_ [85,86,66,87,88,89,90,72,97,.flt .f64 0] 100 6<|Dn [110,111,112,113,114,115]) (.cons 1 (.done (.tup [J 1,100])) .nil)))<|.call 165 [72,92] 97 [none]<|Cf 121 t_ [85,86,66,87,88,89,90,72,97,.flt .f64 0] 98 6<|Dn [108,109,110,111,112,113]
def KR (m:MS) (s:AV):List AV:=[.int .i64 m.pc,s,e_ m.mem,.int .i64 m.used,.int .i64 m.now,.bool m.over,.int .i64 m.err]
def KS (m:MS) (s:AV):List AV:=[.int .i64 m.pc,s,.int .i64 m.used,.int .i64 m.now,.bool m.over,.int .i64 m.err]
theorem yS_ (m:MS) {s:AV} (hs:okC s=true) {l:List AV} (hl:okL l=true):okL (KR m s++l)=true:=kY_.okL_join (by simp only [KR,okL,okC,qt_,hs]) hl
theorem es_ (m:MS) {s:AV} (hs:okC s=true):okL (KR m s)=true:=by simp only [KR,okL,okC,qt_,hs]
theorem D8_ (m:MS) {s:AV} (hs:okC s=true) {l:List AV} (hl:okL l=true):okL (KS m s++l)=true:=kY_.okL_join (by simp only [KS,okL,okC,hs]) hl
theorem Ck_ (m:MS) {s:AV} (hs:okC s=true):okL (KS m s)=true:=by simp only [KS,okL,okC,hs]
abbrev St (l:List FV) (s:AV):Prop:=SlV m_ 3 l s
theorem St.okC {l:List FV} {s:AV} (h:St l s):okC s=true:=SlV.ok h okV
theorem zD_ (l:List FV) (i:Nat):aZ_ (Nat.mul (l.take i).length 3) (bi_ m_ l)=some (bi_ m_ (l.take i)):=by have h:=dv_ (bi_ m_ (l.take i)) (bi_ m_ (l.drop i));rw [←dn_,List.take_append_drop,a5_ wt_]at h;exact h
theorem AT_ (l:List FV) {i:Nat} (hi:i<=l.length) (hne:l≠[]):(XOp.tkx).run Tryz.prog [e_ l,e_ l,.int .i64 (i:Int)]=some (dX_ m_ 3 (l.take i)):=by
 have ht:=zD_ l i;have hlen:(l.take i).length=i:=by rw [List.length_take];omega
 rw [hlen]at ht;cases l with
 |nil=>exact absurd rfl hne
 |cons a r=>
  have hb:(Nat.beq 3 3&&(Nat.ble i (r.length+1)&&Nat.ble i (r.length+1)))=true:=(by have:i<=r.length+1:=hi;simp [this]);show (match Nat.beq 3 3&&(Nat.ble i (r.length+1)&&Nat.ble i (r.length+1))with
   |true=>match aZ_ (Nat.mul i 3) (bi_ m_ (a::r))with
    |some cs'=>some (AV.vsl i 3 cs')
    |none=>none
   |false=>none)=_
  rw [hb];simp only [ht];unfold dX_;rw [hlen]
def R94 (m:MS) (st:List FV) (v:FV):Nat->List AV->Prop:=λ_ ws=>∃s,St st s/\ws=KS m s++m_ v
theorem wH_ {m:MS} {s:AV} {st:List FV} {v:FV} (hs:St (st++[v]) s) (hl:st.length<=100):CF Tryz.prog 123 J_ (KR m s) (R94 m st v):=by
 have e:s=e_ (st++[v]):=SlV.eq hs (by simp);subst e;have hlen:(st++[v]).length=st.length+1:=by simp
 have hi:st.length<(st++[v]).length:=by omega
 have hv:(st++[v])[st.length]=v:=by simp
 have htk:=AT_ (st++[v]) (i:=st.length) (by omega) (by simp);rw [List.take_left]at htk;have hld:=xh_ (st++[v]) hi;rw [hv]at hld;refine vC_ (c:=FX_) (n:=300) (t:=EN_) mo ov rfl (λY _=>vX_ _) (by kernel_rfl) λY hf hg=>?_;unfold EN_;refine VOK_lt (vk_ (st++[v])) rfl (VOK_lt (R_ (z:=(st.length:Int)) (by rw [hlen];omega) (by omega) (by omega)) rfl ?_);refine VOK_lt (bp_ (st++[v]) hi) rfl (vA_ hld rfl (okV v) (VOK_lt htk (sl_ okV st) ?_));exact VOK_fin (show okL (KS m (dX_ m_ 3 st)++m_ v)=true from D8_ m (sl_ okV st) (okV v)) ⟨dX_ m_ 3 st,.inl rfl,rfl⟩
def R92 (m:MS) (st:List FV):Nat->List AV->Prop:=λ_ ws=>∃s,St st s/\ws=KS m s
theorem Eo_ {m:MS} {s:AV} {st:List FV} {v:FV} (hs:St st s) (hl:st.length<=100):CF Tryz.prog 121 t_ (KR m s++m_ v) (R92 m (st++[v])):=by obtain ⟨r,h1,h2⟩:=SlV.app1 (P:=Tryz.prog) (bytes:=24) wt_ (by decide) (by decide) hs v (by omega);refine vC_ (c:=FV_) (n:=300) (t:=EL_) mo ov rfl (λY _=>vX_ _) (by kernel_rfl) λY hf hg=>?_;unfold EL_;exact VOK_lt h1 (St.okC h2) (VOK_fin (show okL (KS m r)=true from Ck_ m (St.okC h2)) ⟨r,h2,rfl⟩)
theorem x1_ (e:Int):CF Tryz.prog 160 ft160 [.int .i64 e] (RE0 e):=by
 refine vC_ (c:=F6_) (n:=300) (t:=EW_) mo ov rfl (λY _=>vX_ _) (by kernel_rfl) λY hf hg=>?_;unfold EW_
 (refine b_ rfl rfl ?_ ?_<;>intro h<;>simp only [nc]at h<;>try omega)
 exact VOK_fin rfl (.inr ⟨rfl,h,rfl⟩);exact VOK_fin rfl (.inl ⟨rfl,h,rfl⟩)
theorem zP_ (b:Bool):jD_ Tryz.prog 167 [.bool b] (.agg (m_ ⟨1,tI b,some 0⟩)):=by refine uk_ (sh:=[none]) (ls:=[.bool b]) (c:=Ga_) (n:=300) (t:=E0_) mo ov rfl rfl rfl (λY _=>vX_ _) rfl (by kernel_rfl) λY hf hg=>?_;unfold E0_;cases b;exact vz_ (t:=false) rfl (λh=>by cases h) (λh=>uX_ rfl);exact vz_ (t:=true) rfl (λh=>uX_ rfl) (λh=>by cases h)
def R93 (m:MS) (st:List FV) (x:FV) (i:GI):Nat->List AV->Prop:=λj ws=>
 ((x.i<0\/i.n<=x.i)/\j=1/\ws=[.int .i64 6])\/(¬(x.i<0\/i.n<=x.i)/\j=0/\∃s,St st s/\ws=KS m s++[.int .i64 (i.ad+x.i)])
theorem Ep_ {m:MS} {s:AV} {st:List FV} {x:FV} {i:GI} (hs:St (st++[x]) s) (hl:st.length<=100) (ha:i.ad=8) (hn:i.n=4):CF Tryz.prog 122 zc_ (KR m s++l_ i) (R93 m st x i):=by
 obtain ⟨op,kd,ad,n,vk,vi,vf⟩:=i;simp only at ha hn;subst ha hn;refine vC_ (c:=FW_) (n:=300) (t:=EM_) mo ov rfl (λY _=>vX_ _) (by kernel_rfl) λY hf hg=>?_;unfold EM_;refine uK_ (wH_ (m:=m) hs hl) (show okL (KR m s)=true from es_ m (St.okC hs)) ⟨?_,trivial⟩;rintro ws ⟨s1,hs1,rfl⟩
 (refine b_ rfl rfl ?_ ?_<;>intro h<;>simp only [nc]at h<;>try omega)
 refine uK_ (x1_ 6) rfl ⟨?_,?_,trivial⟩;rintro ws (⟨_,h0,_⟩|⟨h0,_⟩);cases h0;cases h0;rintro ws (⟨h0,_⟩|⟨_,_,rfl⟩);cases h0;exact VOK_fin rfl (.inl ⟨.inl h,rfl,rfl⟩);have h1:=h
 (refine b_ rfl rfl ?_ ?_<;>intro h<;>simp only [nc]at h<;>try omega)
 refine uK_ (x1_ 6) rfl ⟨?_,?_,trivial⟩;rintro ws (⟨_,h0,_⟩|⟨h0,_⟩);cases h0;cases h0;rintro ws (⟨h0,_⟩|⟨_,_,rfl⟩);cases h0;exact VOK_fin rfl (.inl ⟨.inr h,rfl,rfl⟩);exact VOK_lt (q_ (x:=8) (y:=x.i) (by omega) (by omega)) rfl (VOK_fin (show okL (KS m s1++[.int .i64 (8+x.i)])=true from D8_ m (St.okC hs1) rfl) (.inr ⟨by show ¬(x.i<0\/4<=x.i);omega,rfl,s1,hs1,rfl⟩))
def R97 (m:MS) (st:List FV) (r:Except Int FV):Nat->List AV->Prop:=λj ws=>(∃v s,r=.ok v/\j=0/\St (st++[v]) s/\ws=KS m s)\/(∃e,r=.error e/\j=1/\ws=[.int .i64 e])
theorem z_ {m:MS} {s:AV} {st:List FV} {v:FV} {r:Except Int FV} (hs:St st s) (hl:st.length<=100) (hr:r=.ok v) {Y:Sy} {L:List (Nat->List AV->Prop)} {hv hw:List AV} {n:Nat} (h:ab_ Y.v hv=KR m s++m_ v)
  (hw':∀s',St (st++[v]) s'->ab_ ((Y.puts n (KR m s++m_ v)).puts (n+10) (KS m s')).v hw=KS m s'):VOK Tryz.prog (QF (R97 m st r)) L Y (.callF 121 t_ hv n (.cons 6 (.done (.tup (.int .i64 0::hw))) .nil)):=by
 have hp:=Eo_ (m:=m) (v:=v) hs hl;rw [←h]at hp;refine uK_ hp (by rw [h];exact yS_ m (St.okC hs) (okV v)) ⟨?_,trivial⟩;rintro ws ⟨s1,hs1,rfl⟩;rw [h];have e:=hw' s1 hs1;refine VOK_fin (j:=0) ?_ ?_;show okL (ab_ ((Y.puts n (KR m s++m_ v)).puts (n+10) (KS m s1)).v hw)=true;rw [e];exact Ck_ m (St.okC hs1);show R97 m st r 0 (ab_ ((Y.puts n (KR m s++m_ v)).puts (n+10) (KS m s1)).v hw);rw [e];exact .inl ⟨v,s1,hr,rfl,hs1,rfl⟩
theorem Hm_ {m:MS} {s:AV} {st:List FV} {a b:FV} {i:GI} (hs:St (st++[a,b]) s) (hl:st.length<=90) (ho:OpK i.op i.kd) (h14:i.op<=14) (ta:TV a) (tb:TV b) (hka:a.k=i.kd) (hkb:b.k=i.kd):
  CF Tryz.prog 126 xx_ (KR m s++l_ i) (R97 m st (opX i.op a b)):=by
 obtain ⟨op,kd,ad,n,vk,vi,vf⟩:=i;simp only at ho h14 hka hkb;have hs':St ((st++[a])++[b]) s:=by rw [List.append_assoc];exact hs
 have hl1:st.length<=100:=by omega
 refine vC_ (c:=DA_) (n:=300) (t:=BS_) mo ov rfl (λY _=>vX_ _) (by kernel_rfl) λY hf hg=>?_;unfold BS_;refine uK_ (wH_ (m:=m) hs' (by simp;omega)) (show okL (KR m s)=true from es_ m (St.okC hs)) ⟨?_,trivial⟩;rintro ws ⟨s0,hs0,rfl⟩
 (refine b_ rfl rfl ?_ ?_<;>intro h<;>simp only [nc]at h<;>try omega)
 (refine b_ rfl rfl ?_ ?_<;>intro h<;>simp only [nc]at h<;>try omega)
 refine uK_ (wH_ (m:=m) hs0 hl1) (show okL (KR m s0)=true from es_ m (St.okC hs0)) ⟨?_,trivial⟩;rintro ws ⟨s1,hs1,rfl⟩;show VOK Tryz.prog (QF (R97 m st (opX op a b))) _ _ _;clear hs hs'
 (
  by_cases h5:kd=5
  .have hr:=w7_ (h5▸ho);have hw:opX op a b=.ok (wS_ op a.f (b).f):=(by unfold opX opE opV;rw [hka,if_pos h5,if_pos rfl,if_pos h5]);rw [x2_ hr]at hw
   (refine b_ rfl rfl ?_ ?_<;>intro h<;>simp only [nc]at h<;>try omega)
   .refine VOK_lt (run_leq ..) rfl ?_
    (refine b_ rfl rfl ?_ ?_<;>intro h<;>simp only [nc]at h<;>try omega)
    refine uW_ (zO_ op a.f (b).f hr) rfl (by simp only [okL,okC,v8_]) (VOK_lt rfl rfl (vz_ (t:=false) rfl (λh=>by cases h) (λ_=>vz_ rfl (λh12=>?_) (λh12=>?_))));have h12:op<=12:=of_decide_eq_true h12;rw [if_pos (by omega)]at hw;exact uW_ (zP_ _) rfl rfl (z_ (v:=⟨1,tI (ys_ op a.f (b).f),some 0⟩) hs1 hl1 hw rfl (λs' _=>rfl));have h12:¬op<=12:=of_decide_eq_false h12;rw [if_neg (by omega)]at hw;exact z_ (v:=⟨5,0,wR_ op a.f (b).f⟩) hs1 hl1 hw rfl (λs' _=>rfl)
   .rw [if_neg (by omega)]at hw
    (refine b_ rfl rfl ?_ ?_<;>intro h<;>simp only [nc]at h<;>try omega)
    exact uW_ (zO_ op a.f (b).f hr) rfl (by simp only [okL,okC,v8_]) (VOK_lt rfl rfl (vz_ (t:=false) rfl (λh=>by cases h) (λ_=>z_ (v:=⟨5,0,wR_ op a.f (b).f⟩) hs1 hl1 hw rfl (λs' _=>rfl))))
  .have wa:=tD_ (hka▸ta.1) h5;have wb:=tD_ (hkb▸tb.1) h5;have p1:=xs_ kd a.i;have p2:=xs_ kd (b).i;rw [wa]at p1;rw [wb]at p2;have p3:=C6_ op kd a.i (b).i ho h5;have he:opE op kd b=p0_ op (b).i:=(by unfold opE;rw [if_neg h5]);have hi0:p0_ op (b).i=0->B_ op kd a.i (b).i=wW_ op kd a.i (b).i:=λh0=>(by unfold B_;rw [if_pos h0]);have hw:p0_ op (b).i=0->opX op a b=.ok ⟨if 9<=op/\op<=12 then 1 else kd,B_ op kd a.i (b).i,some 0⟩:=λh0=>(by unfold opX opV;rw [hka,he,if_pos h0,if_neg h5,hi0 h0]);have hx:p0_ op (b).i≠0->opX op a b=.error (p0_ op (b).i):=λh0=>by unfold opX;rw [hka,he,if_neg h0]
   (refine b_ rfl rfl ?_ ?_<;>intro h<;>simp only [nc]at h<;>try omega)
   .refine VOK_lt (run_leq ..) rfl ?_
    (refine b_ rfl rfl ?_ ?_<;>intro h<;>simp only [nc]at h<;>try omega)
    refine uW_ p1 rfl rfl (uW_ p2 rfl rfl (uW_ p3 rfl rfl (uK_ (x1_ _) rfl ⟨?_,?_,trivial⟩)));rintro ws (⟨_,h0,rfl⟩|⟨h0,_⟩);have hw:=hw h0;refine vz_ rfl (λh12=>?_) (λh12=>?_);have h12:op<=12:=of_decide_eq_true h12;rw [if_pos (by omega)]at hw;have ht:tI (decide (¬B_ op kd a.i (b).i=0))=B_ op kd a.i (b).i:=(by rw [hi0 h0,W_ (by omega)];cases yb_ op a.i (b).i<;>rfl);rw [←ht]at hw;exact VOK_lt (run_neq ..) rfl (uW_ (zP_ _) rfl rfl (z_ (v:=⟨1,tI (decide (¬B_ op kd a.i (b).i=0)),some 0⟩) hs1 hl1 hw (by by_cases hb:B_ op kd a.i (b).i=0<;>simp [hb]<;>rfl) (λs' _=>rfl)));have h12:¬op<=12:=of_decide_eq_false h12;rw [if_neg (by omega)]at hw;exact z_ (v:=⟨kd,B_ op kd a.i (b).i,some 0⟩) hs1 hl1 hw rfl (λs' _=>rfl);cases h0;rintro ws (⟨h0,_⟩|⟨_,h0,rfl⟩);cases h0;exact VOK_fin (j:=1) rfl (.inr ⟨_,hx h0,rfl,rfl⟩)
   ·(refine b_ rfl rfl ?_ ?_<;>intro h<;>simp only [nc]at h<;>try omega)
    refine uW_ p1 rfl rfl (uW_ p2 rfl rfl (uW_ p3 rfl rfl (uK_ (x1_ _) rfl ⟨?_,?_,trivial⟩)));rintro ws (⟨_,h0,rfl⟩|⟨h0,_⟩);have hw:=hw h0;rw [if_neg (by omega)]at hw;exact z_ (v:=⟨kd,B_ op kd a.i (b).i,some 0⟩) hs1 hl1 hw rfl (λs' _=>rfl);cases h0
    .rintro ws (⟨h0,_⟩|⟨_,h0,rfl⟩);cases h0
     .exact VOK_fin (j:=1) rfl (.inr ⟨_,hx h0,rfl,rfl⟩))
theorem Hl_ {m:MS} {s:AV} {st:List FV} {a:FV} {i:GI} (hs:St (st++[a]) s) (hl:st.length<=90) (ho:OpK i.op i.kd) (h14:i.op=15\/i.op=16) (ta:TV a) (hka:a.k=i.kd):
  CF Tryz.prog 126 xx_ (KR m s++l_ i) (R97 m st (opX i.op a a)):=by
 obtain ⟨op,kd,ad,n,vk,vi,vf⟩:=i;simp only at ho h14 hka;have hl1:st.length<=100:=by omega
 refine vC_ (c:=DA_) (n:=300) (t:=BS_) mo ov rfl (λY _=>vX_ _) (by kernel_rfl) λY hf hg=>?_;unfold BS_;refine uK_ (wH_ (m:=m) hs hl1) (show okL (KR m s)=true from es_ m (St.okC hs)) ⟨?_,trivial⟩;rintro ws ⟨s1,hs1,rfl⟩;show VOK Tryz.prog (QF (R97 m st (opX op a a))) _ _ _;have hkb:=hka;have tb:=ta
 (refine b_ rfl rfl ?_ ?_<;>intro h<;>simp only [nc]at h<;>try omega)
 ·(refine b_ rfl rfl ?_ ?_<;>intro h<;>simp only [nc]at h<;>try omega)
  clear h;clear h;clear h14
  (
   by_cases h5:kd=5
   .have hr:=w7_ (h5▸ho);have hw:opX op a a=.ok (wS_ op a.f (a).f):=(by unfold opX opE opV;rw [hka,if_pos h5,if_pos rfl,if_pos h5]);rw [x2_ hr]at hw
    (refine b_ rfl rfl ?_ ?_<;>intro h<;>simp only [nc]at h<;>try omega)
    .refine VOK_lt (run_leq ..) rfl ?_
     (refine b_ rfl rfl ?_ ?_<;>intro h<;>simp only [nc]at h<;>try omega)
     refine uW_ (zO_ op a.f (a).f hr) rfl (by simp only [okL,okC,v8_]) (VOK_lt rfl rfl (vz_ (t:=false) rfl (λh=>by cases h) (λ_=>vz_ rfl (λh12=>?_) (λh12=>?_))));have h12:op<=12:=of_decide_eq_true h12;rw [if_pos (by omega)]at hw;exact uW_ (zP_ _) rfl rfl (z_ (v:=⟨1,tI (ys_ op a.f (a).f),some 0⟩) hs1 hl1 hw rfl (λs' _=>rfl));have h12:¬op<=12:=of_decide_eq_false h12;rw [if_neg (by omega)]at hw;exact z_ (v:=⟨5,0,wR_ op a.f (a).f⟩) hs1 hl1 hw rfl (λs' _=>rfl)
    .rw [if_neg (by omega)]at hw
     (refine b_ rfl rfl ?_ ?_<;>intro h<;>simp only [nc]at h<;>try omega)
     exact uW_ (zO_ op a.f (a).f hr) rfl (by simp only [okL,okC,v8_]) (VOK_lt rfl rfl (vz_ (t:=false) rfl (λh=>by cases h) (λ_=>z_ (v:=⟨5,0,wR_ op a.f (a).f⟩) hs1 hl1 hw rfl (λs' _=>rfl))))
   .have wa:=tD_ (hka▸ta.1) h5;have wb:=tD_ (hkb▸tb.1) h5;have p1:=xs_ kd a.i;have p2:=xs_ kd (a).i;rw [wa]at p1;rw [wb]at p2;have p3:=C6_ op kd a.i (a).i ho h5;have he:opE op kd a=p0_ op (a).i:=(by unfold opE;rw [if_neg h5]);have hi0:p0_ op (a).i=0->B_ op kd a.i (a).i=wW_ op kd a.i (a).i:=λh0=>(by unfold B_;rw [if_pos h0]);have hw:p0_ op (a).i=0->opX op a a=.ok ⟨if 9<=op/\op<=12 then 1 else kd,B_ op kd a.i (a).i,some 0⟩:=λh0=>(by unfold opX opV;rw [hka,he,if_pos h0,if_neg h5,hi0 h0]);have hx:p0_ op (a).i≠0->opX op a a=.error (p0_ op (a).i):=λh0=>by unfold opX;rw [hka,he,if_neg h0]
    (refine b_ rfl rfl ?_ ?_<;>intro h<;>simp only [nc]at h<;>try omega)
    .refine VOK_lt (run_leq ..) rfl ?_
     (refine b_ rfl rfl ?_ ?_<;>intro h<;>simp only [nc]at h<;>try omega)
     refine uW_ p1 rfl rfl (uW_ p2 rfl rfl (uW_ p3 rfl rfl (uK_ (x1_ _) rfl ⟨?_,?_,trivial⟩)));rintro ws (⟨_,h0,rfl⟩|⟨h0,_⟩);have hw:=hw h0;refine vz_ rfl (λh12=>?_) (λh12=>?_);have h12:op<=12:=of_decide_eq_true h12;rw [if_pos (by omega)]at hw;have ht:tI (decide (¬B_ op kd a.i (a).i=0))=B_ op kd a.i (a).i:=(by rw [hi0 h0,W_ (by omega)];cases yb_ op a.i (a).i<;>rfl);rw [←ht]at hw;exact VOK_lt (run_neq ..) rfl (uW_ (zP_ _) rfl rfl (z_ (v:=⟨1,tI (decide (¬B_ op kd a.i (a).i=0)),some 0⟩) hs1 hl1 hw (by by_cases hb:B_ op kd a.i (a).i=0<;>simp [hb]<;>rfl) (λs' _=>rfl)));have h12:¬op<=12:=of_decide_eq_false h12;rw [if_neg (by omega)]at hw;exact z_ (v:=⟨kd,B_ op kd a.i (a).i,some 0⟩) hs1 hl1 hw rfl (λs' _=>rfl);cases h0;rintro ws (⟨h0,_⟩|⟨_,h0,rfl⟩);cases h0;exact VOK_fin (j:=1) rfl (.inr ⟨_,hx h0,rfl,rfl⟩)
    ·(refine b_ rfl rfl ?_ ?_<;>intro h<;>simp only [nc]at h<;>try omega)
     refine uW_ p1 rfl rfl (uW_ p2 rfl rfl (uW_ p3 rfl rfl (uK_ (x1_ _) rfl ⟨?_,?_,trivial⟩)));rintro ws (⟨_,h0,rfl⟩|⟨h0,_⟩);have hw:=hw h0;rw [if_neg (by omega)]at hw;exact z_ (v:=⟨kd,B_ op kd a.i (a).i,some 0⟩) hs1 hl1 hw rfl (λs' _=>rfl);cases h0
     .rintro ws (⟨h0,_⟩|⟨_,h0,rfl⟩);cases h0
      .exact VOK_fin (j:=1) rfl (.inr ⟨_,hx h0,rfl,rfl⟩))
 .clear h h14
  (
   by_cases h5:kd=5
   .have hr:=w7_ (h5▸ho);have hw:opX op a a=.ok (wS_ op a.f (a).f):=(by unfold opX opE opV;rw [hka,if_pos h5,if_pos rfl,if_pos h5]);rw [x2_ hr]at hw
    (refine b_ rfl rfl ?_ ?_<;>intro h<;>simp only [nc]at h<;>try omega)
    .refine VOK_lt (run_leq ..) rfl ?_
     (refine b_ rfl rfl ?_ ?_<;>intro h<;>simp only [nc]at h<;>try omega)
     refine uW_ (zO_ op a.f (a).f hr) rfl (by simp only [okL,okC,v8_]) (VOK_lt rfl rfl (vz_ (t:=false) rfl (λh=>by cases h) (λ_=>vz_ rfl (λh12=>?_) (λh12=>?_))));have h12:op<=12:=of_decide_eq_true h12;rw [if_pos (by omega)]at hw;exact uW_ (zP_ _) rfl rfl (z_ (v:=⟨1,tI (ys_ op a.f (a).f),some 0⟩) hs1 hl1 hw rfl (λs' _=>rfl));have h12:¬op<=12:=of_decide_eq_false h12;rw [if_neg (by omega)]at hw;exact z_ (v:=⟨5,0,wR_ op a.f (a).f⟩) hs1 hl1 hw rfl (λs' _=>rfl)
    .rw [if_neg (by omega)]at hw
     (refine b_ rfl rfl ?_ ?_<;>intro h<;>simp only [nc]at h<;>try omega)
     exact uW_ (zO_ op a.f (a).f hr) rfl (by simp only [okL,okC,v8_]) (VOK_lt rfl rfl (vz_ (t:=false) rfl (λh=>by cases h) (λ_=>z_ (v:=⟨5,0,wR_ op a.f (a).f⟩) hs1 hl1 hw rfl (λs' _=>rfl))))
   .have wa:=tD_ (hka▸ta.1) h5;have wb:=tD_ (hkb▸tb.1) h5;have p1:=xs_ kd a.i;have p2:=xs_ kd (a).i;rw [wa]at p1;rw [wb]at p2;have p3:=C6_ op kd a.i (a).i ho h5;have he:opE op kd a=p0_ op (a).i:=(by unfold opE;rw [if_neg h5]);have hi0:p0_ op (a).i=0->B_ op kd a.i (a).i=wW_ op kd a.i (a).i:=λh0=>(by unfold B_;rw [if_pos h0]);have hw:p0_ op (a).i=0->opX op a a=.ok ⟨if 9<=op/\op<=12 then 1 else kd,B_ op kd a.i (a).i,some 0⟩:=λh0=>(by unfold opX opV;rw [hka,he,if_pos h0,if_neg h5,hi0 h0]);have hx:p0_ op (a).i≠0->opX op a a=.error (p0_ op (a).i):=λh0=>by unfold opX;rw [hka,he,if_neg h0]
    (refine b_ rfl rfl ?_ ?_<;>intro h<;>simp only [nc]at h<;>try omega)
    .refine VOK_lt (run_leq ..) rfl ?_
     (refine b_ rfl rfl ?_ ?_<;>intro h<;>simp only [nc]at h<;>try omega)
     refine uW_ p1 rfl rfl (uW_ p2 rfl rfl (uW_ p3 rfl rfl (uK_ (x1_ _) rfl ⟨?_,?_,trivial⟩)));rintro ws (⟨_,h0,rfl⟩|⟨h0,_⟩);have hw:=hw h0;refine vz_ rfl (λh12=>?_) (λh12=>?_);have h12:op<=12:=of_decide_eq_true h12;rw [if_pos (by omega)]at hw;have ht:tI (decide (¬B_ op kd a.i (a).i=0))=B_ op kd a.i (a).i:=(by rw [hi0 h0,W_ (by omega)];cases yb_ op a.i (a).i<;>rfl);rw [←ht]at hw;exact VOK_lt (run_neq ..) rfl (uW_ (zP_ _) rfl rfl (z_ (v:=⟨1,tI (decide (¬B_ op kd a.i (a).i=0)),some 0⟩) hs1 hl1 hw (by by_cases hb:B_ op kd a.i (a).i=0<;>simp [hb]<;>rfl) (λs' _=>rfl)));have h12:¬op<=12:=of_decide_eq_false h12;rw [if_neg (by omega)]at hw;exact z_ (v:=⟨kd,B_ op kd a.i (a).i,some 0⟩) hs1 hl1 hw rfl (λs' _=>rfl);cases h0;rintro ws (⟨h0,_⟩|⟨_,h0,rfl⟩);cases h0;exact VOK_fin (j:=1) rfl (.inr ⟨_,hx h0,rfl,rfl⟩)
    ·(refine b_ rfl rfl ?_ ?_<;>intro h<;>simp only [nc]at h<;>try omega)
     refine uW_ p1 rfl rfl (uW_ p2 rfl rfl (uW_ p3 rfl rfl (uK_ (x1_ _) rfl ⟨?_,?_,trivial⟩)));rintro ws (⟨_,h0,rfl⟩|⟨h0,_⟩);have hw:=hw h0;rw [if_neg (by omega)]at hw;exact z_ (v:=⟨kd,B_ op kd a.i (a).i,some 0⟩) hs1 hl1 hw rfl (λs' _=>rfl);cases h0
     .rintro ws (⟨h0,_⟩|⟨_,h0,rfl⟩);cases h0
      .exact VOK_fin (j:=1) rfl (.inr ⟨_,hx h0,rfl,rfl⟩))
theorem G7_ {m:MS} {s:AV} {st:List FV} {a:FV} {i:GI} (hs:St (st++[a]) s) (hl:st.length<=90) (hk:2<=i.kd/\i.kd<=5) (hn:2<=i.n/\i.n<=5) (ta:TV a) (hka:a.k=i.n):
  CF Tryz.prog 125 Ad_ (KR m s++l_ i) (R97 m st (sN_ i.kd a)):=by
 obtain ⟨op,kd,ad,n,vk,vi,vf⟩:=i;simp only at hk hn hka;have hl1:st.length<=100:=by omega
 refine vC_ (c:=FY_) (n:=300) (t:=EO_) mo ov rfl (λY _=>vX_ _) (by kernel_rfl) λY hf hg=>?_;unfold EO_;refine uK_ (wH_ (m:=m) hs hl1) (show okL (KR m s)=true from es_ m (St.okC hs)) ⟨?_,trivial⟩;rintro ws ⟨s1,hs1,rfl⟩;show VOK Tryz.prog (QF (R97 m st (sN_ kd a))) _ _ _
 (refine b_ rfl rfl ?_ ?_<;>intro h<;>simp only [nc]at h<;>try omega)
 .subst h
  (refine b_ rfl rfl ?_ ?_<;>intro h<;>simp only [nc]at h<;>try omega)
  have ha:a=⟨5,0,a.f⟩:=(by have h0:a.i=0:=(by rcases ta.1 with q|q|q|q|q<;>omega);obtain ⟨k,i,f⟩:=a;simp only at hka h0;subst hka h0;rw [h]);have hw:sN_ 5 a=.ok ⟨5,0,a.f⟩:=(by unfold sN_;rw [if_pos rfl,if_pos (by omega),←ha]);exact z_ (v:=⟨5,0,a.f⟩) hs1 hl1 hw rfl (λs' _=>rfl)
  .have h5:=h
   (refine b_ rfl rfl ?_ ?_<;>intro h<;>simp only [nc]at h<;>try omega)
   exact VOK_lt (BN_ _) rfl (z_ (v:=⟨5,0,some (FloatKind.f64.nearest a.i)⟩) hs1 hl1 (by unfold sN_;rw [if_pos rfl,if_neg (by omega)]) rfl (λs' _=>rfl))
 have hk4:2<=kd/\kd<=4:=by omega
 (refine b_ rfl rfl ?_ ?_<;>intro h<;>simp only [nc]at h<;>try omega)
 (refine b_ rfl rfl ?_ ?_<;>intro h<;>simp only [nc]at h<;>try omega)
 .have h5:=h;refine uW_ (Hb_ hk4 a.f) rfl rfl (uK_ (x1_ _) rfl ⟨?_,?_,trivial⟩)
  .rintro ws (⟨_,h0,rfl⟩|⟨h0,_⟩)
   .cases hw:V_ kd a.f with
    |some n=>have e2:v3_ kd a.f=n:=(by unfold v3_;rw [hw];rfl);rw [←e2]at hw;exact z_ (v:=⟨kd,v3_ kd a.f,some 0⟩) hs1 hl1 (by unfold sN_;rw [if_neg (by omega),if_pos (by omega),hw]) rfl (λs' _=>rfl)
    |none=>unfold uT_ at h0;rw [hw]at h0;cases h0
   cases h0
  .rintro ws (⟨h0,_⟩|⟨_,h0,rfl⟩);cases h0
   .cases hw:V_ kd a.f with
    |some n=>unfold uT_ at h0;rw [hw]at h0;exact absurd rfl h0
    |none=>have e1:uT_ kd a.f=7:=(by unfold uT_;rw [hw];rfl);exact VOK_fin (j:=1) rfl (.inr ⟨7,by unfold sN_;rw [if_neg (by omega),if_pos (by omega),hw],rfl,by show [AV.int .i64 (uT_ kd a.f)]=_;rw [e1]⟩)
 have h5:=h;exact uW_ (xs_ _ _) rfl rfl (z_ (v:=⟨kd,T_ kd a.i,some 0⟩) hs1 hl1 (by unfold sN_;rw [if_neg (by omega),if_neg (by omega)]) rfl (λs' _=>rfl))
end Go.Proofs.YtelnbodnjmldeaaGreat.vars
