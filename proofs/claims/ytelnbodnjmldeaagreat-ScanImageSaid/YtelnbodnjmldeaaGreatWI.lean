/-
  flow: what expressions come to.
-/
import Derived.Test.YtelnbodnjmldeaaGreatWD
import Derived.Test.YtelnbodnjmldeaaGreatFA
import Derived.Test.YtelnbodnjmldeaaGreatV4
set_option linter.all false
set_option maxHeartbeats 1000000
set_option maxRecDepth 100000
open List renaming mem_cons_self→za',mem_cons_of_mem→zb',getElem_mem→ze'
open Int renaming le_refl→zc'
open Nat renaming zero_le→zd'
namespace Go.Proofs.YtelnbodnjmldeaaGreat.vars
open Go Go.Sx
def D_ (l:List FV) {i:Nat} (hi:i<l.length):(XOp.inb).run Tryz.prog [b_ l,.int .i64 (i:Int)]=some (.int .i64 (i:Int)):=NP (enc:=f_) hi .i64
def PZ (l:List FV) {i:Nat} (hi:i<l.length):(XOp.ldx 62 3 0).run Tryz.prog [b_ l,.int .i64 (i:Int)]=some (.agg (f_ l[i])):=
 Fc (ti:=(Tryz.prog.info? 62).get!) Tryz.underlying62 rfl (by kernel_rfl) (by kernel_rfl) FL hi .i64
def MR (mem:List FV) (now left:Int):List AV:=[b_ mem,.int .i64 now,.int .i64 left]
theorem AU_ {mem:List FV} {y:GX} {v:FV} (h:o_ mem y=.ok v):u_ mem [y]=.ok [v]:=by simp only [u_,h]
theorem zK_ {mem:List FV} {y:GX} {e:Int} (h:o_ mem y=.error e):u_ mem [y]=.error e:=by simp only [u_,h]
def vp:VC:=⟨⟨[],[]⟩,[(130,[none])],[],1,true,[(46,A7)]⟩
def mI:VT:=Cf 46 A7 [64,65,J 13] 67 2<|Li (.iaddr 200) [.vsl 13 1 [J 0,J 1,J 2,J 3,.int .i64 (-1),J 7,J 32767,.int .i64 (-32768),J 2147483647,.int .i64 (-2147483648),J 100,J 9223372036854775807,.int .i64 (-9223372036854775808)],70] 72<|Li Z9 [72] 73<|.call 130 [66,73] 74 [none]<|Dn [74,71]
def zg:VC:=⟨⟨[],[]⟩,[],[],1,true,[(46,A7)]⟩
def jV:VT:=Cf 46 A7 [64,65,J 15] 66 2<|Li (.iaddr 199) [.vsl 15 1 [.flt .f64 0,.flt .f64 9223372036854775808,.flt .f64 4607182418800017408,.flt .f64 13830554455654793216,.flt .f64 4602678819172646912,.flt .f64 4612811918334230528,.flt .f64 13838998704956112896,.flt .f64 9094988921128908188,.flt .f64 2024,.flt .f64 9218868437227405312,.flt .f64 18442240474082181120,.nan .f64,.flt .f64 4674736413210574848,.flt .f64 4891288408196988160,.flt .f64 4636737291354636288],69] 71<|Li (.load 60) [71] 72<|Dn [72,70]
def uG:VC:=⟨⟨[],[]⟩,[],[],1,true,[(46,A7),(87,L7),(88,XX)]⟩
def iZ:VT:=Iq 66 1 67 (Cf 46 A7 [64,65,J 2] 68 2<|Dn [J 1,71,.flt .f64 0,72])<|Iq 66 5 68 (Cf 87 L7 [64,65] 69 2<|Dn [J 5,J 0,71,72])<|Cf 88 XX [64,65,66] 69 2<|Dn [66,72,.flt .f64 0,73]
def Wb:VC:=⟨⟨[],[]⟩,[],[(0,[⟨[(4,.slx 0 0 0),(3,.slx 134 3 2),(0,.ptr 0 0)],[(0,[64,.slx 1 0 0])],135,3,[⟨134,3,2,3,none⟩],[],[]⟩])],1,true,[(46,A7),(47,Mi)]⟩
def F9:VT:=.loop 66 0 [J 0,65,.vsl 21 3 [J 2,J 0,.flt .f64 0,J 1,J 0,.flt .f64 0,J 2,J 0,.flt .f64 0,J 1,J 0,.flt .f64 0,J 2,J 5,.flt .f64 0,J 3,J 0,.flt .f64 0,J 5,J 0,.flt .f64 0,J 4,J 0,.flt .f64 0,J 2,J 0,.flt .f64 0,J 2,J 0,.flt .f64 0,J 2,J 0,.flt .f64 0,J 2,J 0,.flt .f64 0,J 1,J 0,.flt .f64 0,J 4,J 0,.flt .f64 0,J 1,J 0,.flt .f64 0,J 4,J 0,.flt .f64 0,J 1,J 0,.flt .f64 0,J 2,J 0,.flt .f64 0,J 1,J 0,.flt .f64 0,J 1,J 0,.flt .f64 0,J 1,J 0,.flt .f64 0]] (.cons 3 (Li Qz [68] 69<|It Q5 [66,69] 70 (Cf 46 A7 [64,67,J 3] 71 2<|It Qb [74,J 0] 76 (Li Q2 [68,66] 77<|Li (.ldx 3 3 0) [68,77] 78<|Cf 47 Mi [64,75,78] 79 4<|Li Q2 [68,66] 86<|Li Z1 [68,86,.agg [82,83,84]] 87<|Li Q3 [66,J 1] 88<|.chk (.same 68 87)<|.again 0 0 [88,85,87])<|Li Q3 [66,J 1] 77<|.again 0 0 [77,75,68])<|Dn [68,67]) .nil)
def xR (n:Int):List AV:=[.int .i64 n]
def nW (o:Option Nat):List AV:=[fv o]
def ak:List Int:=[0,1,2,3,-1,7,32767,-32768,2147483647,-2147483648,100,9223372036854775807,-9223372036854775808]
def kY:List (Option Nat):=[some 0,some 9223372036854775808,some 4607182418800017408,some 13830554455654793216,some 4602678819172646912,some 4612811918334230528,some 13838998704956112896,some 9094988921128908188,some 2024,some 9218868437227405312,some 18442240474082181120,none,some 4674736413210574848,some 4891288408196988160,some 4636737291354636288]
def DD_:∀x∈ak,-9223372036854775808<=x/\x<=9223372036854775807:=by decide
def v9 {l:List UInt8} {a:AV} {n:Nat} {k:Int} (hp:Pk l a) (hn:n<=l.length) (hk:2<=k/\k<=4):A6 88 XX [a,.int .i64 (n:Int),.int .i64 k] (λ_ ws=>∃(r:Int) (n':Nat),ws=[.int .i64 r,.int .i64 (n':Int)]/\Do k r/\n'<=l.length):=by have hA:=hp.1.ok Gv;refine BU vp mI rfl rfl (by kernel_rfl) λY hf hg=>?_;unfold mI;refine a_ (Rq (m:=13) hp hn (by decide) (by decide)) rfl (by simp only [Ak,okC,hA]) ⟨?_,trivial⟩;rintro ws ⟨v,n',rfl,hv,hn'⟩;have hv':v<ak.length:=hv;have hi:=DD_ _ (ze' hv');refine Aa (Bb (enc:=xR) (w:=1) (e:=2) (ti:=(Tryz.prog.info? 2).get!) (l:=ak) Tryz.underlying200 (by kernel_rfl) (by kernel_rfl) (λ_=>rfl) hv' .i64) (A5 (λ_=>rfl) _) ?_;rw [Cc hv'];exact Aa (NN Tryz.underlying2 rfl _ _) rfl (Ar (LE (by omega) _) rfl rfl (Ai rfl ⟨_,n',rfl,Wz (by omega) (by omega) hi.1 hi.2,hn'⟩))
def FW_ (o:Option Nat) (n:Int):Ak [fv o,.int .i64 n]=true:=by cases o<;>rfl
def p87 {l:List UInt8} {a:AV} {n:Nat} (hp:Pk l a) (hn:n<=l.length):A6 87 L7 [a,.int .i64 (n:Int)] (λ_ ws=>∃(o:Option Nat) (n':Nat),ws=[fv o,.int .i64 (n':Int)]/\n'<=l.length):=by have hA:=hp.1.ok Gv;refine BU zg jV rfl rfl (by kernel_rfl) λY hf hg=>?_;unfold jV;refine a_ (Rq (m:=15) hp hn (by decide) (by decide)) rfl (by simp only [Ak,okC,hA]) ⟨?_,trivial⟩;rintro ws ⟨v,n',rfl,hv,hn'⟩;have hv':v<kY.length:=hv;refine Aa (Bb (enc:=nW) (w:=1) (e:=60) (ti:=(Tryz.prog.info? 60).get!) (l:=kY) Tryz.underlying199 (by kernel_rfl) (by kernel_rfl) (λ_=>rfl) hv' .i64) (A5 (λo=>by simp only [nW,Ak,C3]) _) ?_;rw [Cc hv'];exact Aa (NN Tryz.underlying60 rfl _ _) (C3 _) (Ai (FW_ _ _) ⟨_,n',rfl,hn'⟩)
def HR_ (l:List UInt8) (k:Int):Nat->List AV->Prop:=λ_ ws=>∃(v:FV) (n':Nat),ws=f_ v++[.int .i64 (n':Int)]/\TV v/\v.k=k/\n'<=l.length
def p47 {l:List UInt8} {a:AV} {n:Nat} {k:Int} (hp:Pk l a) (hn:n<=l.length) (hk:1<=k/\k<=5):A6 47 Mi [a,.int .i64 (n:Int),.int .i64 k] (HR_ l k):=by
 have hA:=hp.1.ok Gv;refine BU uG iZ rfl rfl (by kernel_rfl) λY hf hg=>?_;unfold iZ
 (refine d_ rfl rfl ?_ ?_<;>intro h<;>try omega)
 subst h;refine a_ (Rq (m:=2) hp hn (by decide) (by decide)) rfl (by simp only [Ak,okC,hA]) ⟨?_,trivial⟩;rintro ws ⟨v,n',rfl,hv,hn'⟩;exact Ai rfl ⟨⟨1,v,some 0⟩,n',rfl,⟨.inl ⟨rfl,by show (0:Int)<=(v:Int);omega,by show (v:Int)<=1;omega⟩,λ_=>rfl⟩,rfl,hn'⟩
 (refine d_ rfl rfl ?_ ?_<;>intro h<;>try omega)
 subst h;refine a_ (p87 hp hn) rfl (by simp only [Ak,okC,hA]) ⟨?_,trivial⟩;rintro ws ⟨o,n',rfl,hn'⟩;exact Ai (LL ⟨5,0,o⟩ _) ⟨⟨5,0,o⟩,n',rfl,⟨.inr (.inr (.inr (.inr ⟨rfl,rfl⟩))),λh=>absurd rfl h⟩,rfl,hn'⟩;refine a_ (v9 hp hn (by omega)) rfl (by simp only [Ak,okC,hA]) ⟨?_,trivial⟩;rintro ws ⟨r,n',rfl,hr,hn'⟩;exact Ai rfl ⟨⟨k,r,some 0⟩,n',rfl,⟨hr,λ_=>rfl⟩,rfl,hn'⟩
def Sv:List FV:=[⟨2,0,some 0⟩,⟨1,0,some 0⟩,⟨2,0,some 0⟩,⟨1,0,some 0⟩,⟨2,5,some 0⟩,⟨3,0,some 0⟩,⟨5,0,some 0⟩,⟨4,0,some 0⟩,⟨2,0,some 0⟩,⟨2,0,some 0⟩,⟨2,0,some 0⟩,⟨2,0,some 0⟩,⟨1,0,some 0⟩,⟨4,0,some 0⟩,⟨1,0,some 0⟩,⟨4,0,some 0⟩,⟨1,0,some 0⟩,⟨2,0,some 0⟩,⟨1,0,some 0⟩,⟨1,0,some 0⟩,⟨1,0,some 0⟩]
def uN:Aj Sv:=by
 refine ⟨rfl,λv hv=>?_⟩;have:∀v∈Sv,(v.k=1\/v.k=2\/v.k=3\/v.k=4\/v.k=5)/\(v.i=0\/(v.i=5/\v.k=2))/\v.f=some 0:=by intro v hv;simp only [Sv,CJ,List.not_mem_nil,or_false]at hv;rcases hv with rfl|rfl|rfl|rfl|rfl|rfl|rfl|rfl|rfl|rfl|rfl|rfl|rfl|rfl|rfl|rfl|rfl|rfl|rfl|rfl|rfl<;>simp
 obtain ⟨h1,h2,h3⟩:=this v hv;refine ⟨?_,λ_=>h3⟩;unfold Do;omega
theorem Aj.set {mem:List FV} (h:Aj mem) {i:Nat} (hi:i<mem.length) {v:FV} (hv:TV v) (hk:v.k=mem[i].k):Aj (mem.set i v):=by refine ⟨?_,λu hu=>?_⟩;rw [←h.1,List.map_set,hk];apply List.ext_getElem (by simp);intro j h1 h2;rw [List.getElem_set];split;rename_i e;subst e;simp;rfl;rcases List.mem_or_eq_of_mem_set hu with hu|rfl;exact h.2 u hu;exact hv
def HP_ (l:List UInt8):Nat->List AV->Prop:=λ_ ws=>∃(mem:List FV) (n':Nat),ws=[b_ mem,.int .i64 (n':Int)]/\Aj mem/\n'<=l.length
def zu (l:List FV) {i:Nat} (hi:i<l.length):(XOp.ldx 3 3 0).run Tryz.prog [b_ l,.int .i64 (i:Int)]=some (.int .i64 l[i].k):=
 H9 (enc:=f_) Tryz.underlying3 rfl FL hi (p:=[]) (r:=[.int .i64 l[i].i,fv l[i].f]) rfl rfl .i64
def J3 (l:List FV) {i:Nat} (hi:i<l.length) (y:FV):(XOp.stx 62 3 0).run Tryz.prog [b_ l,.int .i64 (i:Int),.agg (f_ y)]=some (b_ (l.set i y)):=
 EL (ti:=(Tryz.prog.info? 62).get!) FL hi (p:=[]) (q:=f_ l[i]) (r:=[]) (xs:=f_ y) rfl (.inl rfl) (by kernel_rfl) (by rw [FL];kernel_rfl) (Yp (B2 _)) (by simp) rfl (by rw [FL,FL]) (by simp) .i64
def RV (l:List FV) (i:Nat) (v:FV):(some (b_ l)=some .nsl/\some (b_ (l.set i v))=some .nsl)\/∃n z cs ds,some (b_ l)=some (.vsl n z cs)/\some (b_ (l.set i v))=some (.vsl n z ds):=by
 cases l with
 |nil=>exact .inl ⟨rfl,rfl⟩
 |cons x r=>
  cases i with
  |zero=>exact .inr ⟨_,_,_,_,rfl,rfl⟩
  |succ i=>refine .inr ⟨r.length+1,3,Ay f_ (x::r),Ay f_ (x::r.set i v),rfl,?_⟩;show some (AV.vsl ((r.set i v).length+1) 3 _)=_;rw [List.length_set]
def zH {l:List UInt8} {a:AV} {n:Nat} (hp:Pk l a) (hn:n<=l.length):A6 18 LW [a,.int .i64 (n:Int)] (HP_ l):=by
 have hA:=hp.1.ok Gv;refine BU Wb F9 rfl rfl (by kernel_rfl) λY hf hg=>?_;unfold F9;refine D3 (ι:=Nat×Nat×List FV) (λs=>[.int .i64 (s.1:Int),.int .i64 (s.2.1:Int),b_ s.2.2]) (λs=>s.1<=21/\s.2.1<=l.length/\Aj s.2.2) (λs=>21-s.1) (0,n,Sv) ⟨zd' _,hn,uN⟩ rfl (λs _=>by simp only [Ak,okC,x_]) (λs s' _ _ h=>by simp at h;omega) (λs hs=>?_);obtain ⟨i,m,mem⟩:=s;obtain ⟨h1,h2,h3⟩:=hs;simp only at h1 h2 h3⊢;have hlen:=h3.len;refine Aa (PJ mem) rfl ?_
 (refine d_ rfl rfl ?_ ?_<;>intro h<;>try omega)
 .have hi:i<mem.length:=(by omega);refine a_ (Rq (n:=m) (m:=3) hp h2 (by decide) (by decide)) rfl (by simp only [Ak,okC,hA]) ⟨?_,trivial⟩;rintro ws ⟨v,n',rfl,hv,hn'⟩
  (refine d_ rfl rfl ?_ ?_<;>intro h<;>try omega)
  have ⟨q1,q2⟩:=(h3.2 mem[i] (ze' hi)).1.kd;refine Aa (D_ mem hi) rfl (Aa (zu mem hi) rfl ?_);refine a_ (p47 hp hn' ⟨q1,q2⟩) rfl (by simp only [Ak,okC,hA]) ⟨?_,trivial⟩;rintro ws ⟨w,n2,rfl,tw,wk,hn2⟩;refine Aa (D_ mem hi) rfl (Aa (J3 mem hi w) (x_ _) (Aa (q_ (by omega) (by omega)) rfl ?_));refine Cg (RV mem i w) (CX rfl ⟨(i+1,n2,mem.set i w),⟨by omega,hn2,h3.set hi tw wk⟩,rfl,by simp only;omega⟩);exact Aa (q_ (by omega) (by omega)) rfl (CX rfl ⟨(i+1,n',mem),⟨by omega,hn',h3⟩,rfl,by simp only;omega⟩)
 exact Ai (by show Ak [b_ mem,.int .i64 (m:Int)]=true;simp only [Ak,okC,x_]) ⟨mem,m,rfl,h3,h2⟩
def OD (r:Except Int FV):Nat->List AV->Prop:=λ_ ws=>ws=f_ (Vn r)++[.int .i64 (UQ r)]
structure Dw where
 mem:List FV
 left:Int
 e:Int
def E4 (now at_ pt:Int):Int:=if now<=at_ then 0 else min (now-at_) pt
def bv (b:Bool):FV:=⟨1,tI b,some 0⟩
def tv (i:Int):FV:=⟨4,i,some 0⟩
def nv (i:Int):FV:=⟨2,i,some 0⟩
def Ep (on at_:Int) (inn:Bool) (v now:Int):List FV:=
 if inn=false then [bv false,tv 0,bv false,tv 0]
 else if on=0 then [bv (decide (0=max v 0)),tv 0,bv true,tv now]
 else [bv (decide (E4 now at_ (max v 0)=max v 0)),tv (E4 now at_ (max v 0)),bv true,tv at_]
def Ef (cv was:Int) (inn:Bool) (v:Int):List FV:=
 let c:=if inn=true/\was=0 then min (cv+1) 32767 else cv
 [bv (decide (v<=c)),nv c,bv inn]
def E5 (was:Int) (inn:Bool):List FV:=[bv (inn&&decide (was=0)),bv inn]
def HC (mem:List FV) (at_:Nat) (cs:List FV):List FV:=mem.take at_++(cs++mem.drop (at_+cs.length))
def F1 (mem:List FV) (n:Nat):Int:=(mem.getD n FV.z).i
def A_ (now kd:Int) (mem:List FV) (inn:Bool) (v:Int):List FV:=
 if kd=6 then HC mem 12 (Ep (F1 mem 14) (F1 mem 15) inn v now)
 else if kd=9 then HC mem 16 (Ef (F1 mem 17) (F1 mem 18) inn v)
 else HC mem 19 (E5 (F1 mem 20) inn)
def Ip (mem:List FV):GX->Except Int Int
 | .mk op kd nm fd ad n vk vi vf ag=>match u_ mem ag with
   | .error e=>.error e
   | .ok l=>if (l.headD FV.z).i<0\/n<=(l.headD FV.z).i then .error 6 else .ok (ad+(l.headD FV.z).i)
def FF (to e:GX) (mem:List FV) (left:Int):Dw:=match o_ mem e with
 | .error er=>⟨mem,left,er⟩
 | .ok v=>if to.op=3 then (match Ip mem to with
     | .error er=>⟨mem,left,er⟩
     | .ok a=>⟨mem.set a.toNat v,left,0⟩)
   else ⟨mem.set to.ad.toNat v,left,0⟩
def Od (now kd:Int) (ag:List GX) (mem:List FV) (left:Int):Dw:=match u_ mem ag with
 | .error er=>⟨mem,left,er⟩
 | .ok l=>⟨A_ now kd mem (decide ((l.headD FV.z).i≠0)) (l.tail.headD FV.z).i,left,0⟩
def Di (f:GS->List FV->Int->Dw):List GS->List FV->Int->Dw
 |[],mem,left=>⟨mem,left,0⟩
 |s::r,mem,left=>if (f s mem left).e=0 then Di f r (f s mem left).mem (f s mem left).left else f s mem left
def Is (body:List FV->Int->Dw) (c:List FV->Except Int FV):Nat->List FV->Int->Dw
 |0,mem,left=>⟨mem,left,8⟩
 |n+1,mem,left=>if left-1<0 then ⟨mem,left-1,8⟩else match c mem with
  | .error e=>⟨mem,left-1,e⟩
  | .ok v=>if v.i=0 then ⟨mem,left-1,0⟩else if (body mem (left-1)).e=0 then Is body c n (body mem (left-1)).mem (body mem (left-1)).left else body mem (left-1)
def R_ (now:Int):Nat->GS->List FV->Int->Dw
 |0,_,mem,left=>⟨mem,left,8⟩
 |d+1,.mk op to e thn els nm kd ad ag,mem,left=>
  if op=1 then FF to e mem left
  else if op=2 then (match o_ mem e with
   | .error er=>⟨mem,left,er⟩
   | .ok v=>Di (R_ now d) (if v.i≠0 then thn else els) mem left)
  else if op=3 then Is (Di (R_ now d) thn) (λm=>o_ m e) (left.toNat+1) mem left
  else Od now kd ag mem left
def BB (mem:List FV) (left:Int) (r:Dw):Prop:=Aj r.mem/\(r.e=0\/r.e=5\/r.e=6\/r.e=7\/r.e=8)/\(r.e=0->0<=r.left/\r.left<=left)/\r.mem[0]? =mem[0]? /\r.mem[1]? =mem[1]?
theorem BB.refl {mem:List FV} (hm:Aj mem) {left:Int} (h:0<=left):BB mem left ⟨mem,left,0⟩:=⟨hm,.inl rfl,λ_=>⟨h,zc' _⟩,rfl,rfl⟩
def BB.err {mem:List FV} (hm:Aj mem) {left l:Int} {e:Int} (he:e=5\/e=6\/e=7\/e=8):BB mem left ⟨mem,l,e⟩:=⟨hm,.inr he,λh=>by have h:e=0:=h;omega,rfl,rfl⟩
theorem Aj.kd {mem:List FV} (h:Aj mem) {i:Nat} (hi:i<mem.length):mem[i].k=JG.getD i 0:=by rw [←h.1,List.getD_eq_getElem?_getD,List.getElem?_map,List.getElem?_eq_getElem hi];rfl
def JZ:∀t∈Jw,2<=t.1/\t.1<21/\JG.getD t.1.toNat 0=t.2:=by decide
def oY {mem:List FV} (hm:Aj mem) {left:Int} (hl:0<=left) {a:Int} {v:FV} (h1:2<=a) (h2:a<21) (hv:TV v) (hk:JG.getD a.toNat 0=v.k):BB mem left ⟨mem.set a.toNat v,left,0⟩:=by
 have hlen:=hm.len;have hi:a.toNat<mem.length:=by omega
 refine ⟨hm.set hi hv (by rw [hm.kd hi,hk]),.inl rfl,λ_=>⟨hl,zc' _⟩,?_,?_⟩;show (mem.set a.toNat v)[0]? =_;rw [List.getElem?_set_ne (by omega)];show (mem.set a.toNat v)[1]? =_;rw [List.getElem?_set_ne (by omega)]
def oz {mem:List FV} {d:Nat} {to:GX} (ht:TX d to) (ho:to.op=3) {a:Int} (h:Ip mem to=.ok a):8<=a/\a<12/\to.kd=2:=by
 obtain ⟨op,kd,nm,fd,ad,n,vk,vi,vf,ag⟩:=to;cases d with
 |zero=>exact ht.elim
 |succ d=>obtain ⟨q1,q2,q3,_⟩:=ht.2.2.2.2.1.2.2.1 ho;simp only [Ip]at h;split at h;cases h;split at h;cases h;cases h;exact ⟨by omega,by omega,q3⟩
def xW {mem:List FV} {to:GX} {e:Int} (h:Ip mem to=.error e):e=5\/e=6\/e=7\/e=8:=by obtain ⟨op,kd,nm,fd,ad,n,vk,vi,vf,ag⟩:=to;simp only [Ip]at h;split at h;rename_i e' he;cases h;have:=OA _ _ he;omega;split at h;cases h;omega;cases h
def Ba_ {mem:List FV} (hm:Aj mem) {left:Int} (hl:0<=left) {to e:GX} (ht:TX 5 to) (hw:to.op=2/\(to.ad,to.kd)∈Jw\/to.op=3) (he:TX 6 e) (hk:e.kd=to.kd):BB mem left (FF to e mem left):=by
 unfold FF;split;rename_i er her;have:=y_ _ _ her;exact BB.err hm (by omega)
 .rename_i v hv;obtain ⟨tv,vk⟩:=R6 hm 6 e he v hv;split
  .rename_i h3;split;rename_i er her;exact BB.err hm (xW her)
   .rename_i a ha;obtain ⟨p1,p2,p3⟩:=oz ht h3 ha;refine oY hm hl (by omega) (by omega) tv ?_;rw [vk,hk,p3];rcases (by omega:a=8\/a=9\/a=10\/a=11)with rfl|rfl|rfl|rfl<;>rfl
  rename_i h3;rcases hw with ⟨_,hw⟩|hw;obtain ⟨q1,q2,q3⟩:=JZ _ hw;exact oY hm hl q1 q2 tv (by rw [vk,hk];exact q3);exact absurd hw h3
def ED {mem:List FV} (h:mem.length=21):∃m0 m1 m2 m3 m4 m5 m6 m7 m8 m9 m10 m11 m12 m13 m14 m15 m16 m17 m18 m19 m20,mem=[m0,m1,m2,m3,m4,m5,m6,m7,m8,m9,m10,m11,m12,m13,m14,m15,m16,m17,m18,m19,m20]:=by
 rcases mem with _|⟨m0,mem⟩;· simp at h
 rcases mem with _|⟨m1,mem⟩;· simp at h
 rcases mem with _|⟨m2,mem⟩;· simp at h
 rcases mem with _|⟨m3,mem⟩;· simp at h
 rcases mem with _|⟨m4,mem⟩;· simp at h
 rcases mem with _|⟨m5,mem⟩;· simp at h
 rcases mem with _|⟨m6,mem⟩;· simp at h
 rcases mem with _|⟨m7,mem⟩;· simp at h
 rcases mem with _|⟨m8,mem⟩;· simp at h
 rcases mem with _|⟨m9,mem⟩;· simp at h
 rcases mem with _|⟨m10,mem⟩;· simp at h
 rcases mem with _|⟨m11,mem⟩;· simp at h
 rcases mem with _|⟨m12,mem⟩;· simp at h
 rcases mem with _|⟨m13,mem⟩;· simp at h
 rcases mem with _|⟨m14,mem⟩;· simp at h
 rcases mem with _|⟨m15,mem⟩;· simp at h
 rcases mem with _|⟨m16,mem⟩;· simp at h
 rcases mem with _|⟨m17,mem⟩;· simp at h
 rcases mem with _|⟨m18,mem⟩;· simp at h
 rcases mem with _|⟨m19,mem⟩;· simp at h
 rcases mem with _|⟨m20,mem⟩;· simp at h
 rcases mem with _|⟨x,mem⟩;exact ⟨_,_,_,_,_,_,_,_,_,_,_,_,_,_,_,_,_,_,_,_,_,rfl⟩;simp at h
def Aj.of {m0 m1 m2 m3 m4 m5 m6 m7 m8 m9 m10 m11 m12 m13 m14 m15 m16 m17 m18 m19 m20:FV}:Aj [m0,m1,m2,m3,m4,m5,m6,m7,m8,m9,m10,m11,m12,m13,m14,m15,m16,m17,m18,m19,m20]↔(m0.k=2/\m1.k=1/\m2.k=2/\m3.k=1/\m4.k=2/\m5.k=3/\m6.k=5/\m7.k=4/\m8.k=2/\m9.k=2/\m10.k=2/\m11.k=2/\m12.k=1/\m13.k=4/\m14.k=1/\m15.k=4/\m16.k=1/\m17.k=2/\m18.k=1/\m19.k=1/\m20.k=1)/\(TV m0/\TV m1/\TV m2/\TV m3/\TV m4/\TV m5/\TV m6/\TV m7/\TV m8/\TV m9/\TV m10/\TV m11/\TV m12/\TV m13/\TV m14/\TV m15/\TV m16/\TV m17/\TV m18/\TV m19/\TV m20):=by unfold Aj JG;constructor;rintro ⟨h1,h2⟩;refine ⟨by simpa using h1,?_⟩;simpa using h2;rintro ⟨h1,h2⟩;refine ⟨by simpa using h1,?_⟩;simpa using h2
def Jl (b:Bool):TV (bv b)/\(bv b).k=1:=⟨⟨JI b,λ_=>rfl⟩,rfl⟩
def OW {i:Int} (h1: -9223372036854775808<=i) (h2:i<=9223372036854775807):TV (tv i)/\(tv i).k=4:=⟨⟨.inr (.inr (.inr (.inl ⟨rfl,h1,h2⟩))),λ_=>rfl⟩,rfl⟩
def Fb_ {i:Int} (h1: -32768<=i) (h2:i<=32767):TV (nv i)/\(nv i).k=2:=⟨⟨.inr (.inl ⟨rfl,h1,h2⟩),λ_=>rfl⟩,rfl⟩
def qC {now at_ pt:Int} (h:0<=pt):0<=E4 now at_ pt/\E4 now at_ pt<=pt:=by unfold E4;split<;>omega
def WI (on at_:Int) (inn:Bool) {v now:Int} (hv:v<=9223372036854775807) (hn: -9223372036854775808<=now/\now<=9223372036854775807) (ha: -9223372036854775808<=at_/\at_<=9223372036854775807):
  ∃a b c d,Ep on at_ inn v now=[a,b,c,d]/\(TV a/\a.k=1)/\(TV b/\b.k=4)/\(TV c/\c.k=1)/\(TV d/\d.k=4):=by
 unfold Ep;split;exact ⟨_,_,_,_,rfl,Jl _,OW (by omega) (by omega),Jl _,OW (by omega) (by omega)⟩;split;exact ⟨_,_,_,_,rfl,Jl _,OW (by omega) (by omega),Jl _,OW hn.1 hn.2⟩;have:=qC (now:=now) (at_:=at_) (pt:=max v 0) (by omega);exact ⟨_,_,_,_,rfl,Jl _,OW (by omega) (by omega),Jl _,OW ha.1 ha.2⟩
def Yw {cv:Int} (was:Int) (inn:Bool) (v:Int) (hc: -32768<=cv/\cv<=32767):∃a b c,Ef cv was inn v=[a,b,c]/\(TV a/\a.k=1)/\(TV b/\b.k=2)/\(TV c/\c.k=1):=by
 refine ⟨_,_,_,rfl,Jl _,Fb_ ?_ ?_,Jl _⟩
 .split<;>omega
 .split<;>omega
def Yl {kd ad:Int} {ks:List Int} (hb:M0 kd ad ks) {mem:List FV} (hm:Aj mem) (inn:Bool) {v now:Int} (hv:v<=9223372036854775807) (hn: -9223372036854775808<=now/\now<=9223372036854775807):
  Aj (A_ now kd mem inn v)/\(A_ now kd mem inn v)[0]? =mem[0]? /\(A_ now kd mem inn v)[1]? =mem[1]? :=by
 obtain ⟨m0,m1,m2,m3,m4,m5,m6,m7,m8,m9,m10,m11,m12,m13,m14,m15,m16,m17,m18,m19,m20,rfl⟩:=ED hm.len;have hm':=Aj.of.1 hm;obtain ⟨⟨k0,k1,k2,k3,k4,k5,k6,k7,k8,k9,k10,k11,k12,k13,k14,k15,k16,k17,k18,k19,k20⟩,t0,t1,t2,t3,t4,t5,t6,t7,t8,t9,GN,t11,t12,OG,t14,MB,t16,Fj,F9,Gb,F8⟩:=hm';rcases hb with ⟨rfl,_⟩|⟨rfl,_⟩|⟨rfl,_⟩;have ha:=MB.1.i64;obtain ⟨a,b,c,d,e,⟨ta,ka⟩,⟨tb,kb⟩,⟨tc,kc⟩,td,kd'⟩:=WI m14.i m15.i inn hv hn ha;have e2:A_ now 6 [m0,m1,m2,m3,m4,m5,m6,m7,m8,m9,m10,m11,m12,m13,m14,m15,m16,m17,m18,m19,m20] inn v=[m0,m1,m2,m3,m4,m5,m6,m7,m8,m9,m10,m11,a,b,c,d,m16,m17,m18,m19,m20]:=(by show HC _ 12 (Ep m14.i m15.i inn v now)=_;rw [e];rfl);rw [e2];exact ⟨Aj.of.2 ⟨⟨k0,k1,k2,k3,k4,k5,k6,k7,k8,k9,k10,k11,ka,kb,kc,kd',k16,k17,k18,k19,k20⟩,t0,t1,t2,t3,t4,t5,t6,t7,t8,t9,GN,t11,ta,tb,tc,td,t16,Fj,F9,Gb,F8⟩,rfl,rfl⟩;have hc: -32768<=m17.i/\m17.i<=32767:=(by rcases Fj.1 with q|q|q|q|q<;>omega);obtain ⟨a,b,c,e,⟨ta,ka⟩,⟨tb,kb⟩,tc,kc⟩:=Yw m18.i inn v hc;have e2:A_ now 9 [m0,m1,m2,m3,m4,m5,m6,m7,m8,m9,m10,m11,m12,m13,m14,m15,m16,m17,m18,m19,m20] inn v=[m0,m1,m2,m3,m4,m5,m6,m7,m8,m9,m10,m11,m12,m13,m14,m15,a,b,c,m19,m20]:=(by show HC _ 16 (Ef m17.i m18.i inn v)=_;rw [e];rfl);rw [e2];exact ⟨Aj.of.2 ⟨⟨k0,k1,k2,k3,k4,k5,k6,k7,k8,k9,k10,k11,k12,k13,k14,k15,ka,kb,kc,k19,k20⟩,t0,t1,t2,t3,t4,t5,t6,t7,t8,t9,GN,t11,t12,OG,t14,MB,ta,tb,tc,Gb,F8⟩,rfl,rfl⟩;have ⟨ta,ka⟩:=Jl (inn&&decide (m20.i=0));have ⟨tb,kb⟩:=Jl inn;have e2:A_ now 11 [m0,m1,m2,m3,m4,m5,m6,m7,m8,m9,m10,m11,m12,m13,m14,m15,m16,m17,m18,m19,m20] inn v=[m0,m1,m2,m3,m4,m5,m6,m7,m8,m9,m10,m11,m12,m13,m14,m15,m16,m17,m18,bv (inn&&decide (m20.i=0)),bv inn]:=rfl;rw [e2];exact ⟨Aj.of.2 ⟨⟨k0,k1,k2,k3,k4,k5,k6,k7,k8,k9,k10,k11,k12,k13,k14,k15,k16,k17,k18,ka,kb⟩,t0,t1,t2,t3,t4,t5,t6,t7,t8,t9,GN,t11,t12,OG,t14,MB,t16,Fj,F9,ta,tb⟩,rfl,rfl⟩
def BB.then {mem:List FV} {left:Int} {r q:Dw} (h:BB mem left r) (h0:r.e=0) (h2:BB r.mem r.left q):BB mem left q:=by obtain ⟨a1,a2,a3,a4,a5⟩:=h;obtain ⟨b1,b2,b3,b4,b5⟩:=h2;exact ⟨b1,b2,λh=>⟨(b3 h).1,Int.le_trans (b3 h).2 (a3 h0).2⟩,b4.trans a4,b5.trans a5⟩
def On {f:GS->List FV->Int->Dw}:∀(l:List GS) (mem:List FV) (left:Int),(∀s∈l,∀mem left,Aj mem->0<=left->BB mem left (f s mem left))->Aj mem->0<=left->BB mem left (Di f l mem left)
 |[],mem,left,_,hm,hl=>BB.refl hm hl
 |s::r,mem,left,hf,hm,hl=>by have h1:=hf s za' mem left hm hl;unfold Di;split;rename_i h0;exact h1.then h0 (On r _ _ (λt ht=>hf t (zb' _ ht)) h1.1 (h1.2.2.1 h0).1);exact h1
def eR {body:List FV->Int->Dw} {c:List FV->Except Int FV} (hb:∀mem left,Aj mem->0<=left->BB mem left (body mem left)) (hc:∀mem e,c mem=.error e->e=5\/e=6\/e=7):
  ∀(n:Nat) (mem:List FV) (left:Int),Aj mem->0<=left->BB mem left (Is body c n mem left)
 |0,mem,left,hm,hl=>BB.err hm (by omega)
 |n+1,mem,left,hm,hl=>by unfold Is;split;exact BB.err hm (by omega);rename_i h1;split;rename_i e he;have:=hc _ _ he;exact BB.err hm (by omega);split;exact ⟨hm,.inl rfl,λ_=>⟨by show 0<=left-1;omega,by show left-1<=left;omega⟩,rfl,rfl⟩;have hb1:=hb mem (left-1) hm (by omega);have hb1:BB mem left (body mem (left-1)):=⟨hb1.1,hb1.2.1,λh=>⟨(hb1.2.2.1 h).1,by have:=(hb1.2.2.1 h).2;omega⟩,hb1.2.2.2⟩;split;rename_i h0;exact hb1.then h0 (eR hb hc n _ _ hb1.1 (hb1.2.2.1 h0).1);exact hb1
def fJ {mem:List FV} (hm:Aj mem) {ag:List GX} (ha:∀a∈ag,TX 5 a) {l:List FV} (h:u_ mem ag=.ok l):(l.tail.headD FV.z).i<=9223372036854775807/\ -9223372036854775808<=(l.tail.headD FV.z).i:=by
 have hV:=T6 (R6 hm 5) ag ha l h
 match l,hV with
 |[],_=>exact ⟨by show (0:Int)<=_;omega,by show _<=(0:Int);omega⟩
 |[a],_=>exact ⟨by show (0:Int)<=_;omega,by show _<=(0:Int);omega⟩
 |a::b::r,hV=>have:=(hV.2 b (zb' _ za')).1.i64;exact ⟨this.2,this.1⟩
def NO {now:Int} (hn: -9223372036854775808<=now/\now<=9223372036854775807):∀(d:Nat) (s:GS),TS d s->∀(mem:List FV) (left:Int),Aj mem->0<=left->BB mem left (R_ now d s mem left)
 |0,_,h,_,_,_,_=>h.elim
 |d+1,.mk op to e thn els nm kd ad ag,h,mem,left,hm,hl=>by have ih:=NO hn d;rcases h with ⟨h1,h2,h3,h4,h5,_⟩|⟨h1,h2,h3,h4,h5,h6,h7⟩|⟨h1,h2,h3,_⟩;unfold R_;rw [Ad h1];exact Ba_ hm hl h2 h3 h4 h5;unfold R_;rw [Ab (by omega)];split;split;rename_i er her;have:=y_ _ _ her;exact BB.err hm (by omega);rename_i v hv;refine On _ mem left (λs hs=>?_) hm hl;split at hs;exact ih s (h6 s hs);exact ih s (h7 s hs);rw [Ad (by omega)];exact eR (λm l hm hl=>On thn m l (λs hs=>ih s (h6 s hs)) hm hl) (λm e' he=>y_ _ _ he) _ _ _ hm hl;unfold R_;rw [Ab (by omega),Ab (by omega),Ab (by omega)];unfold Od;split;rename_i er her;have:=OA _ _ her;exact BB.err hm (by omega);rename_i l hl';have hv:=fJ hm h3 hl';obtain ⟨b1,b2,b3⟩:=Yl (now:=now) h2 hm (decide ((l.headD FV.z).i≠0)) hv.1 hn;exact ⟨b1,.inl rfl,λ_=>⟨hl,zc' _⟩,b2,b3⟩
structure MS where
 pc:Int
 st:List FV
 mem:List FV
 used:Int
 now:Int
 over:Bool
 err:Int
def j_ (i:GI):Nat:=if i.op=1\/i.op=2\/i.op=20\/i.op=23 then 0 else if i.op=3\/i.op=15\/i.op=16\/i.op=17\/i.op=18\/i.op=21 then 1 else if i.op=22 then i.n.toNat else 2
def ZY (i:GI):FV:=⟨i.vk,i.vi,some i.vf⟩
def EO (i:GI) (mem:List FV) (a b:FV):Except Int FV:=if i.op=1 then .ok (ZY i)else if i.op=2 then .ok (cell mem i.ad)else D5 mem i.op i.kd i.ad i.n a b
def JK (m:MS) (e:Int):MS:=⟨m.pc,m.st,m.mem,m.used+1,m.now,m.over,e⟩
def Er (m:MS) (pc:Int) (st mem:List FV):MS:=⟨pc,st,mem,m.used+1,m.now,m.over,m.err⟩
def CD (i:GI) (m:MS) (rest inn:List FV):MS:=
 if i.op<=17 then (match EO i m.mem (inn.headD FV.z) (inn.getLastD FV.z)with
  | .error e=>JK m e
  | .ok v=>Er m (m.pc+1) (rest++[v]) m.mem)
 else if i.op=18 then Er m (m.pc+1) rest (m.mem.set i.ad.toNat (inn.headD FV.z))
 else if i.op=19 then (if (inn.getLastD FV.z).i<0\/i.n<=(inn.getLastD FV.z).i then JK m 6 else Er m (m.pc+1) rest (m.mem.set (i.ad+(inn.getLastD FV.z).i).toNat (inn.headD FV.z)))
 else if i.op=20 then Er m i.ad rest m.mem
 else if i.op=21 then Er m (if (inn.headD FV.z).i=0 then i.ad else m.pc+1) rest m.mem
 else if i.op=22 then Er m (m.pc+1) rest (A_ m.now i.kd m.mem (decide ((inn.headD FV.z).i≠0)) (inn.tail.headD FV.z).i)
 else ⟨m.pc,rest,m.mem,m.used+1,m.now,true,m.err⟩
def Lz (l:List GI) (m:MS):GI:=l.getD m.pc.toNat (l_ 23 0 0 0)
def e_ (l:List GI) (m:MS):MS:=if m.over=true\/m.err≠0 then m else
 CD (Lz l m) m (m.st.take (m.st.length-j_ (Lz l m))) (m.st.drop (m.st.length-j_ (Lz l m)))
def TI (T:List (List Int)) (p:Nat) (i:GI) (K:List Int):Prop:=
 ∃K0 ks,K=K0++ks/\ks.length=j_ i/\K.length<=40/\(
  (∃k,T[p+1]? =some (K0++[k])/\(
    (i.op=1/\TV (ZY i)/\i.vk=k)\/(i.op=2/\(i.ad,k)∈IF)\/
    (i.op=3/\i.ad=8/\i.n=4/\k=2/\(ks=[2]\/ks=[3]))\/
    (i.op=17/\2<=i.kd/\i.kd<=5/\k=i.kd/\ks=[i.n]/\2<=i.n/\i.n<=5)\/
    (CS i.op i.kd/\k=(if 9<=i.op/\i.op<=12 then 1 else i.kd)/\(ks=[i.kd]/\(i.op=15\/i.op=16)\/ks=[i.kd,i.kd]/\i.op<=14))))\/
  (T[p+1]? =some K0/\(
    (i.op=18/\∃k,ks=[k]/\(i.ad,k)∈Jw)\/
    (i.op=19/\i.ad=8/\i.n=4/\(ks=[2,2]\/ks=[2,3]))\/
    (i.op=22/\M0 i.kd i.ad ks/\i.n=(ks.length:Int))\/
    (i.op=21/\ks=[1]/\∃q:Nat,i.ad=(q:Int)/\T[q]? =some K0)))\/
  (i.op=20/\∃q:Nat,i.ad=(q:Int)/\T[q]? =some K0)\/
  i.op=23)
mutual
def Iz:List Int->GX->List (List Int)
 |K,.mk op kd nm fd ad n vk vi vf ag=>HF K ag++[K++ag.map GX.kd]
def HF:List Int->List GX->List (List Int)
 |_,[]=>[]
 |K,a::r=>Iz K a++HF (K++[a.kd]) r
end
mutual
theorem M_:∀(K:List Int) (x:GX),(Iz K x).length=(c_ x).length
 |K,.mk op kd nm fd ad n vk vi vf ag=>by simp only [Iz,c_,Ax,B8,I0 K ag]
theorem I0:∀(K:List Int) (l:List GX),(HF K l).length=(g_ l).length
 |_,[]=>rfl
 |K,a::r=>by simp only [HF,g_,Ax,M_ K a,I0 _ r]
end
mutual
theorem Sa:∀(K:List Int) (x:GX) (r:List (List Int)),(Iz K x++r)[0]? =some K
 |K,.mk op kd nm fd ad n vk vi vf ag,r=>by simp only [Iz,Be,List.singleton_append];exact Wl K ag r
theorem Wl:∀(K:List Int) (l:List GX) (r:List (List Int)),(HF K l++(K++l.map GX.kd)::r)[0]? =some K
 |K,[],r=>by simp only [HF,List.map_nil,Ch,Ct];rfl
 |K,a::l,r=>by simp only [HF,Be];exact Sa K a _
end
def MW (k:Int):GX->List (List Int)
 | .mk op _ _ _ ad n _ _ _ ag=>if op=3 then HF [k] ag++[[k]++ag.map GX.kd]else [[k]]
mutual
def LX:GS->List (List Int)
 | .mk op to e thn els nm kd ad ag=>
   if op=1 then Iz [] e++MW e.kd to
   else if op=2 then (if els=[]then Iz [] e++([1]::GE thn)else Iz [] e++([1]::(GE thn++([]::GE els))))
   else if op=3 then Iz [] e++([1]::(GE thn++[[]]))
   else HF [] ag++[ag.map GX.kd]
def GE:List GS->List (List Int)
 |[]=>[]
 |s::r=>LX s++GE r
end
theorem CG_ (k:Int) (x:GX):(MW k x).length=(Ey x).length:=by obtain ⟨op,kd,nm,fd,ad,n,vk,vi,vf,ag⟩:=x;simp only [MW,Ey];split;simp only [Ax,B8,I0];rfl
mutual
theorem aI:∀(s:GS) (b:Nat),(LX s).length=(w_ b s).length
 | .mk op to e thn els nm kd ad ag,b=>by simp only [LX,w_];split;simp only [Ax,M_,CG_];split;split;simp only [Ax,List.length_cons,AH,M_,X_ thn (b+(c_ e).length+1)];omega;simp only [Ax,List.length_cons,AH,M_,X_ thn (b+(c_ e).length+1),X_ els (b+(c_ e).length+1+(h_ (b+(c_ e).length+1) thn).length+1)];omega;split;simp only [Ax,List.length_cons,AH,M_,X_ thn (b+(c_ e).length+1)];omega;simp only [Ax,List.length_cons,AH,I0]
theorem X_:∀(l:List GS) (b:Nat),(GE l).length=(h_ b l).length
 |[],_=>rfl
 |s::r,b=>by simp only [GE,h_,Ax,aI s b,X_ r (b+(w_ b s).length)]
end
def CF_ (s:GS) (r:List (List Int)) (h:∃d,TS d s):(LX s++r)[0]? =some []:=by
 obtain ⟨op,to,e,thn,els,nm,kd,ad,ag⟩:=s;simp only [LX];split;rw [List.append_assoc];exact Sa [] e _;split
 .split<;>(rw [List.append_assoc];exact Sa [] e _)
 split;rw [List.append_assoc];exact Sa [] e _;rw [List.append_assoc];exact Wl [] ag _
def MK (l:List GS) (r:List (List Int)) (h:∀s∈l,∃d,TS d s):(GE l++[]::r)[0]? =some []:=by
 cases l with
 |nil=>rfl
 |cons s l=>simp only [GE,Be];exact CF_ s _ (h s za')
structure FX (l:List GI) (T:List (List Int)) (b:Nat) (s:List GI) (t:List (List Int)) (Ko:List Int):Prop where
 len:t.length=s.length
 at_:∀j,j<s.length->l[b+j]? =s[j]?
 ty:∀j,j<=s.length->T[b+j]? =(t++[Ko])[j]?
def Au (T:List (List Int)) (b:Nat) (s:List GI):Prop:=∀(j:Nat) (i:GI) (K:List Int),s[j]? =some i->T[b+j]? =some K->TI T (b+j) i K
def FX.fst {l:List GI} {T:List (List Int)} {b:Nat} {s s2:List GI} {t t2:List (List Int)} {Ko K1:List Int} (h:FX l T b (s++s2) (t++t2) Ko) (hl:t.length=s.length) (h1:(t2++[Ko])[0]? =some K1):FX l T b s t K1:=by have hlen:=h.len;simp only [Ax]at hlen;refine ⟨hl,λj hj=>?_,λj hj=>?_⟩;rw [h.at_ j (by rw [Ax];omega),List.getElem?_append_left hj];rw [h.ty j (by rw [Ax];omega),List.append_assoc];by_cases e:j<t.length;rw [List.getElem?_append_left e,List.getElem?_append_left e];have e:j=t.length:=(by omega);subst e;rw [List.getElem?_append_right (Nat.le_refl _),List.getElem?_append_right (Nat.le_refl _),Nat.sub_self,h1];rfl
def FX.snd {l:List GI} {T:List (List Int)} {b:Nat} {s s2:List GI} {t t2:List (List Int)} {Ko:List Int} (h:FX l T b (s++s2) (t++t2) Ko) (hl:t.length=s.length):FX l T (b+s.length) s2 t2 Ko:=by have hlen:=h.len;simp only [Ax]at hlen;refine ⟨by omega,λj hj=>?_,λj hj=>?_⟩;rw [Nat.add_assoc,h.at_ _ (by rw [Ax];omega),List.getElem?_append_right (by omega),Nat.add_sub_cancel_left];rw [Nat.add_assoc,h.ty _ (by rw [Ax];omega),List.append_assoc,List.getElem?_append_right (by omega),←hl,Nat.add_sub_cancel_left]
def Au.app {T:List (List Int)} {b:Nat} {s s2:List GI} (h1:Au T b s) (h2:Au T (b+s.length) s2):Au T b (s++s2):=λj i K hi hK=>by by_cases e:j<s.length;rw [List.getElem?_append_left e]at hi;exact h1 j i K hi hK;rw [List.getElem?_append_right (by omega)]at hi;obtain ⟨d,rfl⟩:∃d,j=s.length+d:=⟨j-s.length,by omega⟩;rw [Nat.add_sub_cancel_left]at hi;rw [←Nat.add_assoc]at hK⊢;exact h2 d i K hi hK
theorem Au.one {l:List GI} {T:List (List Int)} {b:Nat} {i:GI} {K Ko:List Int} (h:FX l T b [i] [K] Ko) (hi:T[b]? =some K->T[b+1]? =some Ko->TI T b i K):Au T b [i]:=λj i' K' hi' hK=>by
 have e:j=0:=by
  cases j with
  |zero=>rfl
  |succ j=>simp at hi'
 subst e;cases hi';have h0:=h.ty 0 (zd' _);have h1:=h.ty 1 (Nat.le_refl _);rw [Nat.add_zero]at h0 hK⊢;rw [show ([K]++[Ko])[0]? =some K from rfl]at h0;rw [h0]at hK;cases hK;exact hi h0 h1
section
variable {l:List GI} {T:List (List Int)}
def iX {op kd ad n vk vi:Int} {vf:Nat} {ag:List GX} (h:4<=op/\op<=14):F_ op kd ad n vk vi vf ag=l_ op (Eu ag) 0 0:=by unfold F_;rw [Ab (by omega),Ab (by omega),Ab (by omega),Ab (by omega)]
def yc {i:GI} (h:4<=i.op/\i.op<=14):j_ i=2:=by unfold j_;rw [Ab (by omega),Ab (by omega),Ab (by omega)]
def wK {op kd ad n vk vi:Int} {vf:Nat} {ag:List GX} (h:Cz op ag.length):j_ (F_ op kd ad n vk vi vf ag)=ag.length:=by unfold Cz at h;rcases h with ⟨rfl|rfl,h⟩|⟨rfl|rfl|rfl|rfl,h⟩|⟨h1,h⟩;rw [h];rfl;rw [h];rfl;rw [h];rfl;rw [h];rfl;rw [h];rfl;rw [h];rfl;rw [h,iX h1];exact yc h1
def V9 {ag:List GX} {k:Int} {r:List Int} (h:ag.map GX.kd=k::r):Eu ag=k:=by
 cases ag with
 |nil=>cases h
 |cons a t=>rw [List.map_cons,List.cons.injEq]at h;exact h.1
def zv {d b:Nat} {op kd:Int} {nm fd:List UInt8} {ad n vk vi:Int} {vf:Nat} {ag:List GX} {K:List Int} (h:TX (d+1) (.mk op kd nm fd ad n vk vi vf ag)) (hK:K.length+2<=40) (hn:T[b+1]? =some (K++[kd])):
  TI T b (F_ op kd ad n vk vi vf ag) (K++ag.map GX.kd):=by
 have hal:ag.length<=2:=by have:=h.1;unfold Cz at this;omega
 have hL:(K++ag.map GX.kd).length<=40:=by rw [List.length_append,List.length_map];omega
 obtain ⟨a1,a2,a3,a4,⟨k1,k2,k3,k4,k5,k6,k7⟩,a6⟩:=id h;refine ⟨K,ag.map GX.kd,rfl,by rw [List.length_map,wK a1],hL,.inl ⟨kd,hn,?_⟩⟩;have ha:=a1;unfold Cz at ha;rcases ha with ⟨rfl|rfl,h0⟩|⟨rfl|rfl|rfl|rfl,h0⟩|⟨h1,h0⟩;exact .inl ⟨rfl,(bw h rfl).1,(bw h rfl).2⟩;exact .inr (.inl ⟨rfl,k2 rfl⟩);obtain ⟨q1,q2,q3,k,q4,q5⟩:=k3 rfl;refine .inr (.inr (.inl ⟨rfl,q1,q2,q3,?_⟩));rw [q4];rcases q5 with rfl|rfl;exact .inl rfl;exact .inr rfl
 .obtain ⟨q1,q2⟩:=k5 rfl;have e:=V9 q2;rw [q1,q2];refine .inr (.inr (.inr (.inr ⟨?_,?_,?_⟩)));show CS 15 (Eu ag);rw [e];unfold CS;omega
  .show (1:Int)=if (9:Int)<=15/\(15:Int)<=12 then 1 else Eu ag
   rw [e];rfl
  show [1]=[Eu ag]/\_\/_;rw [e];exact .inl ⟨rfl,.inl rfl⟩
 .obtain ⟨q1,q2,q3⟩:=k6 rfl;have e:=V9 q1;rw [q1];refine .inr (.inr (.inr (.inr ⟨?_,?_,?_⟩)));show CS 16 (Eu ag);rw [e];unfold CS;omega
  .show kd=if (9:Int)<=16/\(16:Int)<=12 then 1 else Eu ag
   rw [e];rfl
  show [kd]=[Eu ag]/\_\/_;rw [e];exact .inl ⟨rfl,.inr rfl⟩
 obtain ⟨q1,q2,k,q3,q4,q5⟩:=k7 rfl;have e:=V9 q3;rw [q3];refine .inr (.inr (.inr (.inl ⟨rfl,q1,q2,rfl,?_,?_,?_⟩)));show [k]=[Eu ag];rw [e];show 2<=Eu ag;rw [e];exact q4;show Eu ag<=5;rw [e];exact q5
 .obtain ⟨k,q1,q2,q3,q4,q5,q6,q7,q8⟩:=k4 h1;have e:=V9 q1;clear k1 k2 k3 k4 k5 k6 k7;rw [q1,iX h1];refine .inr (.inr (.inr (.inr ⟨?_,?_,?_⟩)));show CS op (Eu ag);rw [e];unfold CS;omega
  .show kd=if 9<=op/\op<=12 then 1 else Eu ag
   rw [e];split;omega;omega
  show [k,k]=[Eu ag]/\_\/[k,k]=[Eu ag,Eu ag]/\_;rw [e];exact .inr ⟨rfl,h1.2⟩
mutual
theorem PY:∀(x:GX) (d:Nat),TX d x->∀(K:List Int) (b:Nat),K.length+2*d<=40->FX l T b (c_ x) (Iz K x) (K++[x.kd])->Au T b (c_ x)
 | .mk op kd nm fd ad n vk vi vf ag,0,h,_,_,_,_=>h.elim
 | .mk op kd nm fd ad n vk vi vf ag,d+1,h,K,b,hK,hs=>by simp only [c_,Iz]at hs⊢;have hal:ag.length<=2:=(by have:=h.1;unfold Cz at this;omega);refine Au.app (TR ag d h.2.2.2.2.2 K b (by omega) (hs.fst (I0 K ag) rfl)) ?_;exact Au.one (hs.snd (I0 K ag)) λ_ h1=>zv h (by omega) h1
theorem TR:∀(ag:List GX) (d:Nat),(∀a∈ag,TX d a)->∀(K:List Int) (b:Nat),K.length+ag.length+2*d<=40->FX l T b (g_ ag) (HF K ag) (K++ag.map GX.kd)->Au T b (g_ ag)
 |[],_,_,_,_,_,_=>λj i K hi _=>by simp [g_]at hi
 |a::r,d,h,K,b,hK,hs=>by simp only [g_,HF,List.map_cons,List.length_cons]at hs hK⊢;rw [show K++a.kd::r.map GX.kd=(K++[a.kd])++r.map GX.kd by simp]at hs;refine Au.app (PY a d (h a za') K b (by omega) (hs.fst (M_ K a) (Wl _ r []))) ?_;exact TR r d (λx hx=>h x (zb' _ hx)) _ _ (by simp only [Ax,B8];omega) (hs.snd (M_ K a))
end
def tX {to:GX} {k:Int} {b:Nat} (h:TX 5 to) (hw:to.op=2/\(to.ad,to.kd)∈Jw\/to.op=3) (hk:k=to.kd) (hs:FX l T b (Ey to) (MW k to) []):Au T b (Ey to):=by obtain ⟨op,kd,nm,fd,ad,n,vk,vi,vf,ag⟩:=to;simp only [Ey,MW]at hs⊢;by_cases h3:op=3;rw [Ad h3]at hs⊢;rw [Ad h3]at hs;have hal:ag.length<=2:=(by have:=h.1;unfold Cz at this;omega);refine Au.app (TR ag 4 h.2.2.2.2.2 [k] b (by show 1+ag.length+8<=40;omega) (hs.fst (I0 _ ag) rfl)) ?_;refine Au.one (hs.snd (I0 _ ag)) λ_ h1=>?_;obtain ⟨q1,q2,q3,k',q4,q5⟩:=h.2.2.2.2.1.2.2.1 h3;refine ⟨[],[k]++ag.map GX.kd,rfl,by rw [q4];rfl,by rw [q4];show (2:Nat)<=40;decide,.inr (.inl ⟨h1,.inr (.inl ⟨rfl,q1,q2,?_⟩)⟩)⟩;have hk:k=kd:=hk;rw [q4,hk,q3];rcases q5 with rfl|rfl;exact .inl rfl;exact .inr rfl;rw [Ab h3]at hs⊢;rw [Ab h3]at hs;refine Au.one hs λ_ h1=>?_;rcases hw with ⟨_,hw⟩|hw;exact ⟨[],[k],rfl,rfl,by show (1:Nat)<=40;decide,.inr (.inl ⟨h1,.inl ⟨rfl,k,rfl,by rw [hk];exact hw⟩⟩)⟩;exact absurd hw h3
def nj {b:Nat} {s:List GI} {t:List (List Int)} {Ko K:List Int} (h:FX l T b s t Ko) (h0:(t++[Ko])[0]? =some K):T[b]? =some K:=by have:=h.ty 0 (zd' _);rw [h0]at this;exact this
def Ve {b:Nat} {s:List GI} {t:List (List Int)} {Ko:List Int} (h:FX l T b s t Ko):T[b+s.length]? =some Ko:=by rw [h.ty _ (Nat.le_refl _),List.getElem?_append_right (by rw [h.len];exact Nat.le_refl _),h.len,Nat.sub_self];rfl
theorem La (i:GI) (s:List GI):i::s=[i]++s:=rfl
theorem VL (K:List Int) (t:List (List Int)):K::t=[K]++t:=rfl
def Yb {b:Nat} {q:Nat} (h1:T[b+1]? =some []) (hq:T[q]? =some []):TI T b (l_ 21 0 (q:Int) 0) [1]:=
 ⟨[],[1],rfl,rfl,by decide,.inr (.inl ⟨h1,.inr (.inr (.inr ⟨rfl,rfl,q,rfl,hq⟩))⟩)⟩
def oR {b:Nat} {q:Nat} (hq:T[q]? =some []):TI T b (l_ 20 0 (q:Int) 0) []:=
 ⟨[],[],rfl,rfl,by decide,.inr (.inr (.inl ⟨rfl,q,rfl,hq⟩))⟩
mutual
theorem te:∀(s:GS) (d:Nat),TS d s->∀b:Nat,FX l T b (w_ b s) (LX s) []->Au T b (w_ b s)
 | .mk op to e thn els nm kd ad ag,0,h,_,_=>h.elim
 | .mk op to e thn els nm kd ad ag,d+1,h,b,hs=>by
   simp only [w_,LX]at hs⊢;rcases h with ⟨h1,h2,h3,h4,h5,_⟩|⟨h1,h2,h3,h4,h5,h6,h7⟩|⟨h1,h2,h3,_⟩
   .simp only [Ad h1]at hs⊢;have hh:(MW e.kd to++[[]])[0]? =some [e.kd]:=by obtain ⟨op,kd,nm,fd,ad,n,vk,vi,vf,ag⟩:=to;simp only [MW];split;rw [List.append_assoc];exact Wl [_] ag _;rfl
    exact Au.app (PY e 6 h4 [] b (by decide) (hs.fst (M_ _ e) hh)) (tX h2 h3 h5 (hs.snd (M_ _ e)))
   have n1:¬op=1:=(by omega);simp only [Ab n1]at hs⊢;have ht:∀s∈thn,∃d,TS d s:=λs hs=>⟨d,h6 s hs⟩;have he:∀s∈els,∃d,TS d s:=λs hs=>⟨d,h7 s hs⟩;rcases h1 with h1|h1;simp only [Ad h1]at hs⊢;by_cases hn:els=[];simp only [Ad hn,Be,List.singleton_append]at hs⊢;have h8:=hs.fst (M_ _ e) (K1:=[1]) rfl;rw [←h3]at h8;have h9:=hs.snd (M_ _ e);rw [La,VL]at h9;have h10:=h9.fst rfl (MK thn [] ht);have h11:=h9.snd rfl;have hend:=Ve h11;rw [List.length_singleton]at h11 hend;refine Au.app (PY e 5 h2 [] b (by decide) h8) ?_;rw [La];refine Au.app (Au.one h10 λ_ g1=>Yb g1 hend) ?_;exact O7 thn d h6 _ h11;simp only [Ab hn,Be,List.singleton_append,Bl,Ct]at hs⊢;have h8:=hs.fst (M_ _ e) (K1:=[1]) rfl;rw [←h3]at h8;have h9:=hs.snd (M_ _ e);rw [La,VL]at h9;have h10:=h9.fst rfl (K1:=[]) (by rw [List.append_assoc];exact MK thn _ ht);have h11:=h9.snd rfl;rw [List.length_singleton]at h11;have h12:=h11.fst (X_ thn _) rfl;have h13:=h11.snd (X_ thn _);rw [La,VL]at h13;have h14:=h13.fst rfl (MK els [] he);have h15:=h13.snd rfl;rw [List.length_singleton]at h15;have h0:=nj h15 (MK els [] he);have hend:=Ve h15;refine Au.app (PY e 5 h2 [] b (by decide) h8) ?_;rw [La];refine Au.app (Au.one h10 λ_ g1=>Yb g1 h0) ?_;refine Au.app (O7 thn d h6 _ h12) ?_;rw [La];refine Au.app (Au.one h14 λ_ g1=>oR hend) ?_;exact O7 els d h7 _ h15;have n2:¬op=2:=(by omega);simp only [Ab n2,Ad h1,Be,List.singleton_append,Bl,Ct]at hs⊢;have h8:=hs.fst (M_ _ e) (K1:=[1]) rfl;have hb:=nj h8 (Sa [] e _);rw [←h3]at h8;have h9:=hs.snd (M_ _ e);rw [La,VL]at h9;have h10:=h9.fst rfl (K1:=[]) (by rw [List.append_assoc];exact MK thn _ ht);have h11:=h9.snd rfl;rw [List.length_singleton]at h11;have h12:=h11.fst (X_ thn _) rfl;have h13:=h11.snd (X_ thn _);have hend:=Ve h13;rw [List.length_singleton]at hend;refine Au.app (PY e 5 h2 [] b (by decide) h8) ?_;rw [La];refine Au.app (Au.one h10 λ_ g1=>Yb g1 hend) ?_;refine Au.app (O7 thn d h6 _ h12) ?_;exact Au.one h13 λ_ g1=>oR hb;have n1:¬op=1:=(by omega);have n2:¬op=2:=(by omega);have n3:¬op=3:=(by omega);simp only [Ab n1,Ab n2,Ab n3]at hs⊢;have hal:ag.length<=2:=(by rcases h2 with ⟨_,_,h⟩|⟨_,_,h⟩|⟨_,_,h⟩<;>(have:=congrArg List.length h;simp at this;omega));refine Au.app (TR ag 5 h3 [] b (by show 0+ag.length+10<=40;omega) (hs.fst (I0 _ ag) rfl)) ?_;refine Au.one (hs.snd (I0 _ ag)) λ_ g1=>?_;refine ⟨[],ag.map GX.kd,rfl,?_,by rw [List.length_map];omega,.inr (.inl ⟨g1,.inr (.inr (.inl ⟨rfl,h2,?_⟩))⟩)⟩;rw [List.length_map];rfl;show (ag.length:Int)=_;rw [List.length_map]
theorem O7:∀(x:List GS) (d:Nat),(∀s∈x,TS d s)->∀b:Nat,FX l T b (h_ b x) (GE x) []->Au T b (h_ b x)
 |[],_,_,_,_=>λj i K hi _=>by simp [h_]at hi
 |s::r,d,h,b,hs=>by simp only [h_,GE]at hs⊢;refine Au.app (te s d (h s za') b (hs.fst (aI s b) (MK r [] λt ht=>⟨d,h t (zb' _ ht)⟩))) ?_;exact O7 r d (λt ht=>h t (zb' _ ht)) _ (hs.snd (aI s b))
end
end
def HM (x:List GS):List (List Int):=GE x++[[]]
def ir (x:List GS):FX (r_ x) (HM x) 0 (h_ 0 x) (GE x) []:=by refine ⟨X_ x 0,λj hj=>?_,λj hj=>?_⟩;rw [Nat.zero_add];exact List.getElem?_append_left hj;rw [Nat.zero_add];rfl
def FE_ {x:List GS} {d:Nat} (h:∀s∈x,TS d s):Au (HM x) 0 (r_ x):=by
 refine Au.app (O7 x d h 0 (ir x)) λj i K hi hK=>?_;have e:j=0:=by
  cases j with
  |zero=>rfl
  |succ j=>simp at hi
 subst e;cases hi;rw [Nat.add_zero]at hK⊢;have h0:=Ve (ir x);rw [h0]at hK;cases hK;exact ⟨[],[],rfl,rfl,by decide,.inr (.inr (.inr rfl))⟩
theorem dg (x:List GS):(HM x).length=(r_ x).length:=by unfold HM r_;rw [List.length_append,List.length_append,X_ x 0];rfl
def Hz_ {x:List GS} {d:Nat} (h:∀s∈x,TS d s):(HM x)[0]? =some []:=MK x [] λs hs=>⟨d,h s hs⟩
structure MT (l:List GI) (T:List (List Int)) (m:MS) (p:Nat) (i:GI) (K:List Int):Prop where
 pc:m.pc=(p:Int)
 at_:l[p]? =some i
 ty:T[p]? =some K
 st:m.st.map FV.k=K
 tv:∀v∈m.st,TV v
 mem:Aj m.mem
def Hq (l:List GI) (T:List (List Int)) (m:MS):Prop:=∃p i K,MT l T m p i K
theorem MT.inst {l:List GI} {T:List (List Int)} {m:MS} {p:Nat} {i:GI} {K:List Int} (h:MT l T m p i K):Lz l m=i:=by unfold Lz;rw [h.pc,Int.toNat_natCast,List.getD_eq_getElem?_getD,h.at_];rfl
def cE {st:List FV} {K0 ks:List Int} (h:st.map FV.k=K0++ks):(st.take (st.length-ks.length)).map FV.k=K0/\(st.drop (st.length-ks.length)).map FV.k=ks:=by
 have hl:st.length=K0.length+ks.length:=by rw [←L3 (f:=FV.k),h,List.length_append]
 rw [List.map_take,List.map_drop,h,hl,Nat.add_sub_cancel];exact ⟨List.take_left,List.drop_left⟩
section
variable {l:List GI} {T:List (List Int)} {m:MS} {mem:List FV}
def x8 (hm:Aj mem) {i:Int} (h1:0<=i) (h2:i<4):TV (cell mem (8+i))/\(cell mem (8+i)).k=2:=by obtain ⟨p,q⟩:=hm.cell (n:=8+i) (by omega) (by omega);refine ⟨p,q.trans ?_⟩;rcases (by omega:i=0\/i=1\/i=2\/i=3)with rfl|rfl|rfl|rfl<;>rfl
def ey {op kd ad n:Int} {a b:FV} (h3:op≠3) (h17:op≠17):D5 mem op kd ad n a b=if C9 op a.k b=0 then .ok (E6 op a.k a b)else .error (C9 op a.k b):=by unfold D5;rw [Ab h3,Ab h17]
def DA_ (hm:Aj mem) {i:GI} {k:Int} {ks:List Int} {inn:List FV} (hk:inn.map FV.k=ks) (hv:∀v∈inn,TV v)
  (h:(i.op=1/\TV (ZY i)/\i.vk=k)\/(i.op=2/\(i.ad,k)∈IF)\/(i.op=3/\i.ad=8/\i.n=4/\k=2/\(ks=[2]\/ks=[3]))\/
    (i.op=17/\2<=i.kd/\i.kd<=5/\k=i.kd/\ks=[i.n]/\2<=i.n/\i.n<=5)\/
    (CS i.op i.kd/\k=(if 9<=i.op/\i.op<=12 then 1 else i.kd)/\(ks=[i.kd]/\(i.op=15\/i.op=16)\/ks=[i.kd,i.kd]/\i.op<=14)))
  {v:FV} (ht:EO i mem (inn.headD FV.z) (inn.getLastD FV.z)=.ok v):TV v/\v.k=k:=by
 unfold EO at ht;rcases h with ⟨h1,h2,h3⟩|⟨h1,h2⟩|⟨h1,h2,h3,h4,h5⟩|⟨h1,h2,h3,h4,h5,h6⟩|⟨h1,h2,h3⟩;rw [Ad h1]at ht;cases ht;exact ⟨h2,h3⟩;rw [Ab (by omega),Ad h1]at ht;cases ht;obtain ⟨q1,q2,q3⟩:=Et _ h2;obtain ⟨p,q⟩:=hm.cell q1 q2;exact ⟨p,q.trans q3⟩;rw [Ab (by omega),Ab (by omega)]at ht;unfold D5 at ht;rw [Ad h1]at ht;split at ht;cases ht;rename_i hr;cases ht;rw [h2,h4];exact x8 hm (by omega) (by omega);rw [Ab (by omega),Ab (by omega)]at ht;unfold D5 at ht;rw [Ab (by omega),Ad h1]at ht;rw [h5]at hk;obtain ⟨a,rfl,ha⟩:=Gp hk;have:=dW ⟨h2,h3⟩ (hv a za') ht;exact ⟨this.1,this.2.trans h4.symm⟩;have hop:=h1;unfold CS at hop;rw [Ab (by omega),Ab (by omega),ey (by omega) (by omega)]at ht;have key:∃a,inn.headD FV.z=a/\a.k=i.kd/\TV a:=(by rcases h3 with ⟨h3,_⟩|⟨h3,_⟩;rw [h3]at hk;obtain ⟨a,rfl,ha⟩:=Gp hk;exact ⟨a,rfl,ha,hv a za'⟩;rw [h3]at hk;obtain ⟨a,b,rfl,ha,_⟩:=JX hk;exact ⟨a,rfl,ha,hv a za'⟩);obtain ⟨a,ea,hak,hat⟩:=key;rw [ea]at ht;split at ht;cases ht;rw [hak];exact ⟨mr h1 hat hak,(nS h1).trans h2.symm⟩;cases ht
def LJ {p:Nat} {K:List Int} {st:List FV} (hlen:T.length=l.length) (hp:T[p]? =some K) (hk:st.map FV.k=K) (hv:∀v∈st,TV v) (hm:Aj mem):Hq l T (Er m (p:Int) st mem):=by
 have hpl:p<l.length:=by rw [←hlen];exact (List.getElem?_eq_some_iff.1 hp).1
 exact ⟨p,l[p],K,rfl,List.getElem?_eq_getElem hpl,hp,hk,hv,hm⟩
def J1_ (hm:Aj mem) {v:FV} (hv:TV v) (hk:v.k=2) {i:Int} (h1:0<=i) (h2:i<4):Aj (mem.set (8+i).toNat v):=by have hl:=hm.len;refine hm.set (i:=(8+i).toNat) (by omega) hv ?_;rw [hm.kd (by omega),hk];rcases (by omega:i=0\/i=1\/i=2\/i=3)with rfl|rfl|rfl|rfl<;>rfl
def J2_ (hm:Aj mem) {v:FV} (hv:TV v) {a:Int} (h:(a,v.k)∈Jw):Aj (mem.set a.toNat v):=by obtain ⟨q1,q2,q3⟩:=JZ _ h;simp only at q1 q2 q3;have hl:=hm.len;refine hm.set (i:=a.toNat) (by omega) hv ?_;rw [hm.kd (by omega)];exact q3.symm
def tf (hlen:T.length=l.length) (hG:Au T 0 l) (hn: -9223372036854775808<=m.now/\m.now<=9223372036854775807) {p:Nat} {i:GI} {K:List Int} (h:MT l T m p i K):Hq l T (e_ l m):=by
 unfold e_;split;exact ⟨p,i,K,h⟩;rw [h.inst];have hT:=hG p i K h.at_ (by rw [Nat.zero_add];exact h.ty);rw [Nat.zero_add]at hT;obtain ⟨K0,ks,rfl,hks,hK40,hT⟩:=hT;rw [←hks];obtain ⟨s1,s2⟩:=cE h.st;have v1:∀v∈m.st.take (m.st.length-ks.length),TV v:=λv hv=>h.tv v (List.mem_of_mem_take hv);have v2:∀v∈m.st.drop (m.st.length-ks.length),TV v:=λv hv=>h.tv v (List.mem_of_mem_drop hv);have hpc:m.pc+1=((p+1:Nat):Int):=by rw [h.pc];rfl
 have hbad:∀e,Hq l T (JK m e):=λe=>⟨p,i,_,h.pc,h.at_,h.ty,h.st,h.tv,h.mem⟩;have hmem:=h.mem;generalize m.st.take (m.st.length-ks.length)=rest at*;generalize m.st.drop (m.st.length-ks.length)=inn at*;unfold CD;rcases hT with ⟨k,hk,hT⟩|⟨hk,hT⟩|⟨h20,q,hq,hT⟩|h23;have h17:i.op<=17:=(by rcases hT with ⟨q,_⟩|⟨q,_⟩|⟨q,_⟩|⟨q,_⟩|⟨q,_⟩;omega;omega;omega;omega;unfold CS at q;omega);rw [Ad h17];split;exact hbad _;rename_i v hv;obtain ⟨t1,t2⟩:=DA_ h.mem s2 v2 hT hv;rw [hpc];refine LJ hlen hk (by rw [List.map_append,s1,List.map_singleton,t2]) (λu hu=>?_) h.mem;rcases List.mem_append.1 hu with hu|hu;exact v1 u hu;rw [List.mem_singleton.1 hu];exact t1
 .rcases hT with ⟨h1,k,h2,h3⟩|⟨h1,h2,h3,h4⟩|⟨h1,h2,h3⟩|⟨h1,h2,q,h3,h4⟩;rw [Ab (by omega),Ad h1,hpc];rw [h2]at s2;obtain ⟨a,rfl,ha⟩:=Gp s2;exact LJ hlen hk s1 v1 (J2_ h.mem (v2 a za') (by rw [ha];exact h3))
  .rw [Ab (by omega),Ab (by omega),Ad h1,hpc];split;exact hbad _
   .rename_i hr;have:∃a b,inn=[a,b]/\a.k=2:=by rcases h4 with rfl|rfl;obtain ⟨a,b,e,ha,_⟩:=JX s2;exact ⟨a,b,e,ha⟩;obtain ⟨a,b,e,ha,_⟩:=JX s2;exact ⟨a,b,e,ha⟩
    obtain ⟨a,b,rfl,ha⟩:=this;have hr:¬(b.i<0\/i.n<=b.i):=hr;rw [h2];exact LJ hlen hk s1 v1 (J1_ h.mem (v2 a za') ha (i:=b.i) (by omega) (by omega))
  .rw [Ab (by omega),Ab (by omega),Ab (by omega),Ab (by omega),Ab (by omega),Ad h1,hpc];have hv:(inn.tail.headD FV.z).i<=9223372036854775807:=by
    match inn,v2 with
    |[],_=>show (0:Int)<=_;omega
    |[a],_=>show (0:Int)<=_;omega
    |a::b::r,v2=>exact ((v2 b (zb' _ za')).1.i64).2
   exact LJ hlen hk s1 v1 (Yl h2 h.mem _ hv hn).1
  rw [Ab (by omega),Ab (by omega),Ab (by omega),Ab (by omega),Ad h1,hpc];split;rw [h3];exact LJ hlen h4 s1 v1 h.mem;exact LJ hlen hk s1 v1 h.mem
 rw [Ab (by omega),Ab (by omega),Ab (by omega),Ad h20,hq];exact LJ hlen hT s1 v1 h.mem
 .rw [Ab (by omega),Ab (by omega),Ab (by omega),Ab (by omega),Ab (by omega),Ab (by omega)];have h0:ks=[]:=by have:j_ i=0:=(by unfold j_;rw [Ad (by omega)]);rw [this]at hks;exact List.length_eq_zero_iff.1 hks
  subst h0;rw [List.append_nil]at h;exact ⟨p,i,K0,h.pc,h.at_,h.ty,s1,v1,h.mem⟩
end
def gu {l:List GI} {T:List (List Int)} {m:MS} (hlen:T.length=l.length) (hG:Au T 0 l) (hn: -9223372036854775808<=m.now/\m.now<=9223372036854775807) (h:Hq l T m):Hq l T (e_ l m):=by obtain ⟨p,i,K,h⟩:=h;exact tf hlen hG hn h
def Bq (l:List GI):Nat->MS->MS
 |0,m=>m
 |n+1,m=>Bq l n (e_ l m)
theorem Nv (l:List GI):∀(a b:Nat) (m:MS),Bq l (a+b) m=Bq l b (Bq l a m)
 |0,b,m=>by rw [Nat.zero_add];rfl
 |a+1,b,m=>by rw [Nat.add_right_comm];exact Nv l a b (e_ l m)
theorem lJ (l:List GI) (a:Nat) (m:MS):Bq l (a+1) m=e_ l (Bq l a m):=Nv l a 1 m
def Ew (m:MS):Prop:=m.over=true\/m.err≠0
instance (m:MS):Decidable (Ew m):=by unfold Ew;exact inferInstance
def Xx {l:List GI} {m:MS} (h:Ew m):e_ l m=m:=by unfold e_;rw [Ad (show m.over=true\/m.err≠0 from h)]
def bQ {l:List GI} {m:MS} (h:Ew m):∀n,Bq l n m=m
 |0=>rfl
 |n+1=>by show Bq l n (e_ l m)=m;rw [Xx h];exact bQ h n
def XD (i:GI) (m:MS) (r n:List FV):(CD i m r n).used=m.used+1/\(CD i m r n).now=m.now:=by
 unfold CD;repeat' split
 all_goals exact ⟨rfl,rfl⟩
def mg {l:List GI} {m:MS} (h:¬Ew m):(e_ l m).used=m.used+1:=by unfold e_;rw [Ab (show ¬(m.over=true\/m.err≠0) from h)];exact (XD ..).1
def xA {l:List GI} {m:MS}:(e_ l m).now=m.now:=by unfold e_;split;rfl;exact (XD ..).2
def ii {l:List GI}:∀(n:Nat) (m:MS),m.used<=(Bq l n m).used/\(Bq l n m).used<=m.used+n/\(¬Ew (Bq l n m)->(Bq l n m).used=m.used+n)
 |0,m=>⟨zc' _,by simp [Bq],λ_=>by simp [Bq]⟩
 |n+1,m=>by have ih:=ii (l:=l) n (e_ l m);show m.used<=(Bq l n (e_ l m)).used/\(Bq l n (e_ l m)).used<=m.used+((n+1:Nat):Int)/\(¬Ew (Bq l n (e_ l m))->(Bq l n (e_ l m)).used=m.used+((n+1:Nat):Int));by_cases h:Ew m;rw [Xx h]at ih⊢;rw [bQ h]at ih⊢;exact ⟨zc' _,by omega,λh2=>absurd h h2⟩;have hu:=mg (l:=l) h;rw [hu]at ih;exact ⟨by omega,by omega,λh2=>by have:=ih.2.2 h2;omega⟩
def uM:VC:=⟨⟨[],[]⟩,[],[],0,true,[]⟩
def cP:VT:=It Zj [64,.nsl] 65 (Dn [.nsl])<|Li Qe [.vsl 0 3 [],64] 66<|Dn [66]
def ze:VC:=⟨⟨[],[]⟩,[],[],2,true,[]⟩
def fa:VT:=Li Qz [65] 71<|Li Qj [71,J 1] 72<|Li Q2 [65,72] 73<|.lt Qx [65,73] 74 (some 3)<|Li .tkx [65,65,72] 77<|Dn [64,77,67,68,69,70,74,75,76]
def H6_:VC:=⟨⟨[],[]⟩,[],[],2,true,[]⟩
def mh:VT:=Li Qe [65,.agg [71,72,73]] 74<|Dn [64,74,67,68,69,70]
def H7_:VC:=⟨⟨[],[]⟩,[],[],2,true,[(123,S_),(160,Bt)]⟩
def mW:VT:=Cf 123 S_ (Af 64 7) 78 9<|It Z8 [92,J 0] 94 (.callF 160 Bt [J 6] 95 (.cons 0 (Li Qr [73,92] 96<|Dn (Af 85 6++[96])) (.cons 1 (.done (.tup [J 1,96])) .nil)))<|It Qu [92,74] 95 (.callF 160 Bt [J 6] 96 (.cons 0 (Li Qr [73,92] 97<|Dn (Af 85 6++[97])) (.cons 1 (.done (.tup [J 1,97])) .nil)))<|Li Qr [73,92] 96<|Dn (Af 85 6++[96])
def Ik_:VC:=⟨⟨[],[]⟩,[],[],0,true,[]⟩
def eZ:VT:=It Q7 [64,J 0] 65 (.done (.tup [J 1,64]))<|Dn []
def xS:VC:=⟨⟨[],[]⟩,[],[],0,true,[]⟩
def fI:VT:=.ite 64 (.done (.agg [J 1,J 1,.flt .f64 0]))<|.done (.agg [J 1,J 0,.flt .f64 0])
def j9:VC:=⟨⟨[],[]⟩,[(167,[(some 3)]),(166,[none,none,none]),(165,[none]),(168,[none,none])],[],2,true,[(121,z_),(123,S_),(160,Bt)]⟩
def V5:VT:=Cf 123 S_ (Af 64 7) 78 9<|It Q1 [71,J 15] 94 (It Q1 [71,J 16] 95 (Cf 123 S_ [85,86,66,87,88,89,90] 96 9<|It Q4 [71,J 9] 112 (Li Q8 [71,J 12] 113<|Iq 72 5 114 (.call 166 [71,111,93] 115 [none,none,none]<|It Q6 [117] 118 (.callF 160 Bt [J 4] 119 (.cons 0 (Dn (Af 103 6)) (.cons 1 (.done (.tup [J 1,120])) .nil)))<|.ite 113 (.call 167 [116] 119 [(some 3)]<|Cf 121 z_ [103,104,66,105,106,107,108,119,120,121] 122 6<|Dn (Af 132 6))<|Cf 121 z_ [103,104,66,105,106,107,108,J 5,J 0,115] 119 6<|Dn (Af 129 6))<|.call 165 [72,110] 115 [none]<|.call 165 [72,92] 116 [none]<|.call 168 [71,72,115,116] 117 [none,none]<|.callF 160 Bt [118] 119 (.cons 0 (.ite 113 (Li Qc [117,J 0] 120<|.call 167 [120] 121 [(some 3)]<|Cf 121 z_ [103,104,66,105,106,107,108,121,122,123] 124 6<|Dn (Af 134 6))<|Cf 121 z_ [103,104,66,105,106,107,108,72,117,.flt .f64 0] 120 6<|Dn (Af 130 6)) (.cons 1 (.done (.tup [J 1,120])) .nil)))<|Iq 72 5 113 (.call 166 [71,111,93] 114 [none,none,none]<|It Q6 [116] 117 (.callF 160 Bt [J 4] 118 (.cons 0 (Dn (Af 103 6)) (.cons 1 (.done (.tup [J 1,119])) .nil)))<|Cf 121 z_ [103,104,66,105,106,107,108,J 5,J 0,114] 118 6<|Dn (Af 128 6))<|.call 165 [72,110] 114 [none]<|.call 165 [72,92] 115 [none]<|.call 168 [71,72,114,115] 116 [none,none]<|.callF 160 Bt [117] 118 (.cons 0 (Cf 121 z_ [103,104,66,105,106,107,108,72,116,.flt .f64 0] 119 6<|Dn (Af 129 6)) (.cons 1 (.done (.tup [J 1,119])) .nil)))<|It Q4 [71,J 9] 96 (Li Q8 [71,J 12] 97<|Iq 72 5 98 (.call 166 [71,93,93] 99 [none,none,none]<|It Q6 [101] 102 (.callF 160 Bt [J 4] 103 (.cons 0 (Dn (Af 85 6)) (.cons 1 (.done (.tup [J 1,104])) .nil)))<|.ite 97 (.call 167 [100] 103 [(some 3)]<|Cf 121 z_ [85,86,66,87,88,89,90,103,104,105] 106 6<|Dn (Af 116 6))<|Cf 121 z_ [85,86,66,87,88,89,90,J 5,J 0,99] 103 6<|Dn (Af 113 6))<|.call 165 [72,92] 99 [none]<|.call 165 [72,92] 100 [none]<|.call 168 [71,72,99,100] 101 [none,none]<|.callF 160 Bt [102] 103 (.cons 0 (.ite 97 (Li Qc [101,J 0] 104<|.call 167 [104] 105 [(some 3)]<|Cf 121 z_ [85,86,66,87,88,89,90,105,106,107] 108 6<|Dn (Af 118 6))<|Cf 121 z_ [85,86,66,87,88,89,90,72,101,.flt .f64 0] 104 6<|Dn (Af 114 6)) (.cons 1 (.done (.tup [J 1,104])) .nil)))<|Iq 72 5 97 (.call 166 [71,93,93] 98 [none,none,none]<|It Q6 [100] 101 (.callF 160 Bt [J 4] 102 (.cons 0 (Dn (Af 85 6)) (.cons 1 (.done (.tup [J 1,103])) .nil)))<|Cf 121 z_ [85,86,66,87,88,89,90,J 5,J 0,98] 102 6<|Dn (Af 112 6))<|.call 165 [72,92] 98 [none]<|.call 165 [72,92] 99 [none]<|.call 168 [71,72,98,99] 100 [none,none]<|.callF 160 Bt [101] 102 (.cons 0 (Cf 121 z_ [85,86,66,87,88,89,90,72,100,.flt .f64 0] 103 6<|Dn (Af 113 6)) (.cons 1 (.done (.tup [J 1,103])) .nil)))<|It Q4 [71,J 9] 95 (Li Q8 [71,J 12] 96<|Iq 72 5 97 (.call 166 [71,93,93] 98 [none,none,none]<|It Q6 [100] 101 (.callF 160 Bt [J 4] 102 (.cons 0 (Dn (Af 85 6)) (.cons 1 (.done (.tup [J 1,103])) .nil)))<|.ite 96 (.call 167 [99] 102 [(some 3)]<|Cf 121 z_ [85,86,66,87,88,89,90,102,103,104] 105 6<|Dn (Af 115 6))<|Cf 121 z_ [85,86,66,87,88,89,90,J 5,J 0,98] 102 6<|Dn (Af 112 6))<|.call 165 [72,92] 98 [none]<|.call 165 [72,92] 99 [none]<|.call 168 [71,72,98,99] 100 [none,none]<|.callF 160 Bt [101] 102 (.cons 0 (.ite 96 (Li Qc [100,J 0] 103<|.call 167 [103] 104 [(some 3)]<|Cf 121 z_ [85,86,66,87,88,89,90,104,105,106] 107 6<|Dn (Af 117 6))<|Cf 121 z_ [85,86,66,87,88,89,90,72,100,.flt .f64 0] 103 6<|Dn (Af 113 6)) (.cons 1 (.done (.tup [J 1,103])) .nil)))<|Iq 72 5 96 (.call 166 [71,93,93] 97 [none,none,none]<|It Q6 [99] 100 (.callF 160 Bt [J 4] 101 (.cons 0 (Dn (Af 85 6)) (.cons 1 (.done (.tup [J 1,102])) .nil)))<|Cf 121 z_ [85,86,66,87,88,89,90,J 5,J 0,97] 101 6<|Dn (Af 111 6))<|.call 165 [72,92] 97 [none]<|.call 165 [72,92] 98 [none]<|.call 168 [71,72,97,98] 99 [none,none]<|.callF 160 Bt [100] 101 (.cons 0 (Cf 121 z_ [85,86,66,87,88,89,90,72,99,.flt .f64 0] 102 6<|Dn (Af 112 6)) (.cons 1 (.done (.tup [J 1,102])) .nil))
def H9_:VC:=⟨⟨[],[]⟩,[(164,[none,none]),(165,[none])],[],2,true,[(121,z_),(123,S_),(160,Bt)]⟩
def cR:VT:=Cf 123 S_ (Af 64 7) 78 9<|Iq 72 5 94 (Iq 74 5 95 (Cf 121 z_ [85,86,66,87,88,89,90,J 5,J 0,93] 96 6<|Dn (Af 106 6))<|Iq 72 5 96 (Li Zz [92] 97<|Cf 121 z_ [85,86,66,87,88,89,90,J 5,J 0,97] 98 6<|Dn (Af 108 6))<|Iq 74 5 97 (.call 164 [72,93] 98 [none,none]<|.callF 160 Bt [99] 100 (.cons 0 (Cf 121 z_ [85,86,66,87,88,89,90,72,98,.flt .f64 0] 101 6<|Dn (Af 111 6)) (.cons 1 (.done (.tup [J 1,101])) .nil)))<|.call 165 [72,92] 98 [none]<|Cf 121 z_ [85,86,66,87,88,89,90,72,98,.flt .f64 0] 99 6<|Dn (Af 109 6))<|Iq 72 5 95 (Li Zz [92] 96<|Cf 121 z_ [85,86,66,87,88,89,90,J 5,J 0,96] 97 6<|Dn (Af 107 6))<|Iq 74 5 96 (.call 164 [72,93] 97 [none,none]<|.callF 160 Bt [98] 99 (.cons 0 (Cf 121 z_ [85,86,66,87,88,89,90,72,97,.flt .f64 0] 100 6<|Dn (Af 110 6)) (.cons 1 (.done (.tup [J 1,100])) .nil)))<|.call 165 [72,92] 97 [none]<|Cf 121 z_ [85,86,66,87,88,89,90,72,97,.flt .f64 0] 98 6<|Dn (Af 108 6)
def KR (m:MS) (s:AV):List AV:=[.int .i64 m.pc,s,b_ m.mem,.int .i64 m.used,.int .i64 m.now,.bool m.over,.int .i64 m.err]
def KS (m:MS) (s:AV):List AV:=[.int .i64 m.pc,s,.int .i64 m.used,.int .i64 m.now,.bool m.over,.int .i64 m.err]
def OB (m:MS) {s:AV} (hs:okC s=true) {l:List AV} (hl:Ak l=true):Ak (KR m s++l)=true:=A5.okL_join (by simp only [KR,Ak,okC,x_,hs]) hl
def Fe (m:MS) {s:AV} (hs:okC s=true):Ak (KR m s)=true:=by simp only [KR,Ak,okC,x_,hs]
def ni (m:MS) {s:AV} (hs:okC s=true) {l:List AV} (hl:Ak l=true):Ak (KS m s++l)=true:=A5.okL_join (by simp only [KS,Ak,okC,hs]) hl
def pz (m:MS) {s:AV} (hs:okC s=true):Ak (KS m s)=true:=by simp only [KS,Ak,okC,hs]
abbrev St (l:List FV) (s:AV):Prop:=SlV f_ 3 l s
theorem St.okC {l:List FV} {s:AV} (h:St l s):okC s=true:=SlV.ok h B2
def rz (l:List FV) (i:Nat):CN (Nat.mul (l.take i).length 3) (Ay f_ l)=some (Ay f_ (l.take i)):=by have h:=Lm (Ay f_ (l.take i)) (Ay f_ (l.drop i));rw [←Kf,List.take_append_drop,EC FL]at h;exact h
def Cm_ (l:List FV) {i:Nat} (hi:i<=l.length) (hne:l≠[]):(XOp.tkx).run Tryz.prog [b_ l,b_ l,.int .i64 (i:Int)]=some (BG f_ 3 (l.take i)):=by
 have ht:=rz l i;have hlen:(l.take i).length=i:=by rw [List.length_take];omega
 rw [hlen]at ht;cases l with
 |nil=>exact absurd rfl hne
 |cons a r=>
  have hb:(Nat.beq 3 3&&(Nat.ble i (r.length+1)&&Nat.ble i (r.length+1)))=true:=(by have:i<=r.length+1:=hi;simp [this]);show (match Nat.beq 3 3&&(Nat.ble i (r.length+1)&&Nat.ble i (r.length+1))with
   |true=>match CN (Nat.mul i 3) (Ay f_ (a::r))with
    |some cs'=>some (AV.vsl i 3 cs')
    |none=>none
   |false=>none)=_
  rw [hb];simp only [ht];unfold BG;rw [hlen]
def th (m:MS) (st:List FV) (v:FV):Nat->List AV->Prop:=λ_ ws=>∃s,St st s/\ws=KS m s++f_ v
def GU {m:MS} {s:AV} {st:List FV} {v:FV} (hs:St (st++[v]) s) (hl:st.length<=100):A6 123 S_ (KR m s) (th m st v):=by
 have e:s=b_ (st++[v]):=SlV.eq hs (by simp);subst e;have hlen:(st++[v]).length=st.length+1:=by simp
 have hi:st.length<(st++[v]).length:=by omega
 have hv:(st++[v])[st.length]=v:=by simp
 have htk:=Cm_ (st++[v]) (i:=st.length) (by omega) (by simp);rw [List.take_left]at htk;have hld:=PZ (st++[v]) hi;rw [hv]at hld;refine BU ze fa rfl rfl (by kernel_rfl) λY hf hg=>?_;unfold fa;refine Aa (PJ (st++[v])) rfl (Aa (Eh (z:=(st.length:Int)) (by rw [hlen];omega) (by omega) (by omega)) rfl ?_);refine Aa (D_ (st++[v]) hi) rfl (B3 hld rfl (B2 v) (Aa htk (GO B2 st) ?_));exact Ai (show Ak (KS m (BG f_ 3 st)++f_ v)=true from ni m (GO B2 st) (B2 v)) ⟨BG f_ 3 st,.inl rfl,rfl⟩
def zc (m:MS) (st:List FV):Nat->List AV->Prop:=λ_ ws=>∃s,St st s/\ws=KS m s
def nC {m:MS} {s:AV} {st:List FV} {v:FV} (hs:St st s) (hl:st.length<=100):A6 121 z_ (KR m s++f_ v) (zc m (st++[v])):=by obtain ⟨r,h1,h2⟩:=SlV.app1 (P:=Tryz.prog) (bytes:=24) FL (by decide) (by decide) hs v (by omega);refine BU H6_ mh rfl rfl (by kernel_rfl) λY hf hg=>?_;unfold mh;exact Aa h1 (St.okC h2) (Ai (show Ak (KS m r)=true from pz m (St.okC h2)) ⟨r,h2,rfl⟩)
def MC (e:Int):A6 160 Bt [.int .i64 e] (RE0 e):=by
 refine BU Ik_ eZ rfl rfl (by kernel_rfl) λY hf hg=>?_;unfold eZ
 (refine i_ rfl rfl ?_ ?_<;>intro h<;>simp only [nc]at h<;>try omega)
 exact Ai rfl (.inr ⟨rfl,h,rfl⟩);exact Ai rfl (.inl ⟨rfl,h,rfl⟩)
def VF (b:Bool):AQ 167 [.bool b] (.agg (f_ ⟨1,tI b,some 0⟩)):=by refine BV [none] [.bool b] xS fI rfl rfl rfl rfl rfl (by kernel_rfl) λY hf hg=>?_;unfold fI;cases b;exact AC (t:=false) rfl (λh=>by cases h) (λh=>As rfl);exact AC (t:=true) rfl (λh=>As rfl) (λh=>by cases h)
def wh (m:MS) (st:List FV) (x:FV) (i:GI):Nat->List AV->Prop:=λj ws=>
 ((x.i<0\/i.n<=x.i)/\j=1/\ws=[.int .i64 6])\/(¬(x.i<0\/i.n<=x.i)/\j=0/\∃s,St st s/\ws=KS m s++[.int .i64 (i.ad+x.i)])
def cN {m:MS} {s:AV} {st:List FV} {x:FV} {i:GI} (hs:St (st++[x]) s) (hl:st.length<=100) (ha:i.ad=8) (hn:i.n=4):A6 122 VK (KR m s++n_ i) (wh m st x i):=by
 obtain ⟨op,kd,ad,n,vk,vi,vf⟩:=i;simp only at ha hn;subst ha hn;refine BU H7_ mW rfl rfl (by kernel_rfl) λY hf hg=>?_;unfold mW;refine Bo (GU (m:=m) hs hl) (show Ak (KR m s)=true from Fe m (St.okC hs)) ⟨?_,trivial⟩;rintro ws ⟨s1,hs1,rfl⟩
 (refine i_ rfl rfl ?_ ?_<;>intro h<;>simp only [nc]at h<;>try omega)
 refine Bo (MC 6) rfl ⟨?_,?_,trivial⟩;rintro ws (⟨_,h0,_⟩|⟨h0,_⟩);cases h0;cases h0;rintro ws (⟨h0,_⟩|⟨_,_,rfl⟩);cases h0;exact Ai rfl (.inl ⟨.inl h,rfl,rfl⟩);have h1:=h
 (refine i_ rfl rfl ?_ ?_<;>intro h<;>simp only [nc]at h<;>try omega)
 refine Bo (MC 6) rfl ⟨?_,?_,trivial⟩;rintro ws (⟨_,h0,_⟩|⟨h0,_⟩);cases h0;cases h0;rintro ws (⟨h0,_⟩|⟨_,_,rfl⟩);cases h0;exact Ai rfl (.inl ⟨.inr h,rfl,rfl⟩);exact Aa (q_ (x:=8) (y:=x.i) (by omega) (by omega)) rfl (Ai (show Ak (KS m s1++[.int .i64 (8+x.i)])=true from ni m (St.okC hs1) rfl) (.inr ⟨by show ¬(x.i<0\/4<=x.i);omega,rfl,s1,hs1,rfl⟩))
def Kh (m:MS) (st:List FV) (r:Except Int FV):Nat->List AV->Prop:=λj ws=>(∃v s,r=.ok v/\j=0/\St (st++[v]) s/\ws=KS m s)\/(∃e,r=.error e/\j=1/\ws=[.int .i64 e])
def Fh {m:MS} {s:AV} {st:List FV} {v:FV} {r:Except Int FV} (hs:St st s) (hl:st.length<=100) (hr:r=.ok v) {Y:Sy} {L:List (Nat->List AV->Prop)} {hv hw:List AV} {n:Nat} (h:Am Y.v hv=KR m s++f_ v)
  (hw':∀s',St (st++[v]) s'->Am ((Y.puts n (KR m s++f_ v)).puts (n+10) (KS m s')).v hw=KS m s'):AB Tryz.prog (QF (Kh m st r)) L Y (.callF 121 z_ hv n (.cons 6 (.done (.tup (.int .i64 0::hw))) .nil)):=by
 have hp:=nC (m:=m) (v:=v) hs hl;rw [←h]at hp;refine Bo hp (by rw [h];exact OB m (St.okC hs) (B2 v)) ⟨?_,trivial⟩;rintro ws ⟨s1,hs1,rfl⟩;rw [h];have e:=hw' s1 hs1;refine Ai (j:=0) ?_ ?_;show Ak (Am ((Y.puts n (KR m s++f_ v)).puts (n+10) (KS m s1)).v hw)=true;rw [e];exact pz m (St.okC hs1);show Kh m st r 0 (Am ((Y.puts n (KR m s++f_ v)).puts (n+10) (KS m s1)).v hw);rw [e];exact .inl ⟨v,s1,hr,rfl,hs1,rfl⟩
def rF {m:MS} {s:AV} {st:List FV} {a b:FV} {i:GI} (hs:St (st++[a,b]) s) (hl:st.length<=90) (ho:CS i.op i.kd) (h14:i.op<=14) (ta:TV a) (tb:TV b) (hka:a.k=i.kd) (hkb:b.k=i.kd):
  A6 126 NJ (KR m s++n_ i) (Kh m st (Dq i.op a b)):=by
 obtain ⟨op,kd,ad,n,vk,vi,vf⟩:=i;simp only at ho h14 hka hkb;have hs':St ((st++[a])++[b]) s:=by rw [List.append_assoc];exact hs
 have hl1:st.length<=100:=by omega
 refine BU j9 V5 rfl rfl (by kernel_rfl) λY hf hg=>?_;unfold V5;refine Bo (GU (m:=m) hs' (by simp;omega)) (show Ak (KR m s)=true from Fe m (St.okC hs)) ⟨?_,trivial⟩;rintro ws ⟨s0,hs0,rfl⟩
 (refine i_ rfl rfl ?_ ?_<;>intro h<;>simp only [nc]at h<;>try omega)
 (refine i_ rfl rfl ?_ ?_<;>intro h<;>simp only [nc]at h<;>try omega)
 refine Bo (GU (m:=m) hs0 hl1) (show Ak (KR m s0)=true from Fe m (St.okC hs0)) ⟨?_,trivial⟩;rintro ws ⟨s1,hs1,rfl⟩;show AB Tryz.prog (QF (Kh m st (Dq op a b))) _ _ _;clear hs hs'
 (
  by_cases h5:kd=5
  .have hr:=bh (h5▸ho);have hw:Dq op a b=.ok (KF op a.f (b).f):=(by unfold Dq C9 E6;rw [hka,Ad h5,Ad rfl,Ad h5]);rw [bq hr]at hw
   (refine i_ rfl rfl ?_ ?_<;>intro h<;>simp only [nc]at h<;>try omega)
   .refine Aa (BN ..) rfl ?_
    (refine i_ rfl rfl ?_ ?_<;>intro h<;>simp only [nc]at h<;>try omega)
    refine Ar (Tb op a.f (b).f hr) rfl (by simp only [Ak,okC,C3]) (Aa rfl rfl (AC (t:=false) rfl (λh=>by cases h) (λ_=>AC rfl (λh12=>?_) (λh12=>?_))));have h12:op<=12:=AR h12;rw [Ad (by omega)]at hw;exact Ar (VF _) rfl rfl (Fh (v:=⟨1,tI (QU op a.f (b).f),some 0⟩) hs1 hl1 hw rfl (λs' _=>rfl));have h12:¬op<=12:=Cy h12;rw [Ab (by omega)]at hw;exact Fh (v:=⟨5,0,LB op a.f (b).f⟩) hs1 hl1 hw rfl (λs' _=>rfl)
   .rw [Ab (by omega)]at hw
    (refine i_ rfl rfl ?_ ?_<;>intro h<;>simp only [nc]at h<;>try omega)
    exact Ar (Tb op a.f (b).f hr) rfl (by simp only [Ak,okC,C3]) (Aa rfl rfl (AC (t:=false) rfl (λh=>by cases h) (λ_=>Fh (v:=⟨5,0,LB op a.f (b).f⟩) hs1 hl1 hw rfl (λs' _=>rfl))))
  .have wa:=Mx (hka▸ta.1) h5;have wb:=Mx (hkb▸tb.1) h5;have p1:=Kp kd a.i;have p2:=Kp kd (b).i;rw [wa]at p1;rw [wb]at p2;have p3:=lT op kd a.i (b).i ho h5;have he:C9 op kd b=CH op (b).i:=(by unfold C9;rw [Ab h5]);have hi0:CH op (b).i=0->H_ op kd a.i (b).i=Dr op kd a.i (b).i:=λh0=>(by unfold H_;rw [Ad h0]);have hw:CH op (b).i=0->Dq op a b=.ok ⟨if 9<=op/\op<=12 then 1 else kd,H_ op kd a.i (b).i,some 0⟩:=λh0=>(by unfold Dq E6;rw [hka,he,Ad h0,Ab h5,hi0 h0]);have hx:CH op (b).i≠0->Dq op a b=.error (CH op (b).i):=λh0=>by unfold Dq;rw [hka,he,Ab h0]
   (refine i_ rfl rfl ?_ ?_<;>intro h<;>simp only [nc]at h<;>try omega)
   .refine Aa (BN ..) rfl ?_
    (refine i_ rfl rfl ?_ ?_<;>intro h<;>simp only [nc]at h<;>try omega)
    refine Ar p1 rfl rfl (Ar p2 rfl rfl (Ar p3 rfl rfl (Bo (MC _) rfl ⟨?_,?_,trivial⟩)));rintro ws (⟨_,h0,rfl⟩|⟨h0,_⟩);have hw:=hw h0;refine AC rfl (λh12=>?_) (λh12=>?_);have h12:op<=12:=AR h12;rw [Ad (by omega)]at hw;have ht:tI (decide (¬H_ op kd a.i (b).i=0))=H_ op kd a.i (b).i:=(by rw [hi0 h0,My (by omega)];cases MG op a.i (b).i<;>rfl);rw [←ht]at hw;exact Aa (Av ..) rfl (Ar (VF _) rfl rfl (Fh (v:=⟨1,tI (decide (¬H_ op kd a.i (b).i=0)),some 0⟩) hs1 hl1 hw (by by_cases hb:H_ op kd a.i (b).i=0<;>simp [hb]<;>rfl) (λs' _=>rfl)));have h12:¬op<=12:=Cy h12;rw [Ab (by omega)]at hw;exact Fh (v:=⟨kd,H_ op kd a.i (b).i,some 0⟩) hs1 hl1 hw rfl (λs' _=>rfl);cases h0;rintro ws (⟨h0,_⟩|⟨_,h0,rfl⟩);cases h0;exact Ai (j:=1) rfl (.inr ⟨_,hx h0,rfl,rfl⟩)
   ·(refine i_ rfl rfl ?_ ?_<;>intro h<;>simp only [nc]at h<;>try omega)
    refine Ar p1 rfl rfl (Ar p2 rfl rfl (Ar p3 rfl rfl (Bo (MC _) rfl ⟨?_,?_,trivial⟩)));rintro ws (⟨_,h0,rfl⟩|⟨h0,_⟩);have hw:=hw h0;rw [Ab (by omega)]at hw;exact Fh (v:=⟨kd,H_ op kd a.i (b).i,some 0⟩) hs1 hl1 hw rfl (λs' _=>rfl);cases h0
    .rintro ws (⟨h0,_⟩|⟨_,h0,rfl⟩);cases h0
     .exact Ai (j:=1) rfl (.inr ⟨_,hx h0,rfl,rfl⟩))
def sB {m:MS} {s:AV} {st:List FV} {a:FV} {i:GI} (hs:St (st++[a]) s) (hl:st.length<=90) (ho:CS i.op i.kd) (h14:i.op=15\/i.op=16) (ta:TV a) (hka:a.k=i.kd):
  A6 126 NJ (KR m s++n_ i) (Kh m st (Dq i.op a a)):=by
 obtain ⟨op,kd,ad,n,vk,vi,vf⟩:=i;simp only at ho h14 hka;have hl1:st.length<=100:=by omega
 refine BU j9 V5 rfl rfl (by kernel_rfl) λY hf hg=>?_;unfold V5;refine Bo (GU (m:=m) hs hl1) (show Ak (KR m s)=true from Fe m (St.okC hs)) ⟨?_,trivial⟩;rintro ws ⟨s1,hs1,rfl⟩;show AB Tryz.prog (QF (Kh m st (Dq op a a))) _ _ _;have hkb:=hka;have tb:=ta
 (refine i_ rfl rfl ?_ ?_<;>intro h<;>simp only [nc]at h<;>try omega)
 case' refine_1=>
  (refine i_ rfl rfl ?_ ?_<;>intro h<;>simp only [nc]at h<;>try omega)
  clear h;clear h;clear h14
 case' refine_2=>clear h h14
 all_goals (
            by_cases h5:kd=5
            .have hr:=bh (h5▸ho);have hw:Dq op a a=.ok (KF op a.f (a).f):=(by unfold Dq C9 E6;rw [hka,Ad h5,Ad rfl,Ad h5]);rw [bq hr]at hw
             (refine i_ rfl rfl ?_ ?_<;>intro h<;>simp only [nc]at h<;>try omega)
             .refine Aa (BN ..) rfl ?_
              (refine i_ rfl rfl ?_ ?_<;>intro h<;>simp only [nc]at h<;>try omega)
              refine Ar (Tb op a.f (a).f hr) rfl (by simp only [Ak,okC,C3]) (Aa rfl rfl (AC (t:=false) rfl (λh=>by cases h) (λ_=>AC rfl (λh12=>?_) (λh12=>?_))));have h12:op<=12:=AR h12;rw [Ad (by omega)]at hw;exact Ar (VF _) rfl rfl (Fh (v:=⟨1,tI (QU op a.f (a).f),some 0⟩) hs1 hl1 hw rfl (λs' _=>rfl));have h12:¬op<=12:=Cy h12;rw [Ab (by omega)]at hw;exact Fh (v:=⟨5,0,LB op a.f (a).f⟩) hs1 hl1 hw rfl (λs' _=>rfl)
             .rw [Ab (by omega)]at hw
              (refine i_ rfl rfl ?_ ?_<;>intro h<;>simp only [nc]at h<;>try omega)
              exact Ar (Tb op a.f (a).f hr) rfl (by simp only [Ak,okC,C3]) (Aa rfl rfl (AC (t:=false) rfl (λh=>by cases h) (λ_=>Fh (v:=⟨5,0,LB op a.f (a).f⟩) hs1 hl1 hw rfl (λs' _=>rfl))))
            .have wa:=Mx (hka▸ta.1) h5;have wb:=Mx (hkb▸tb.1) h5;have p1:=Kp kd a.i;have p2:=Kp kd (a).i;rw [wa]at p1;rw [wb]at p2;have p3:=lT op kd a.i (a).i ho h5;have he:C9 op kd a=CH op (a).i:=(by unfold C9;rw [Ab h5]);have hi0:CH op (a).i=0->H_ op kd a.i (a).i=Dr op kd a.i (a).i:=λh0=>(by unfold H_;rw [Ad h0]);have hw:CH op (a).i=0->Dq op a a=.ok ⟨if 9<=op/\op<=12 then 1 else kd,H_ op kd a.i (a).i,some 0⟩:=λh0=>(by unfold Dq E6;rw [hka,he,Ad h0,Ab h5,hi0 h0]);have hx:CH op (a).i≠0->Dq op a a=.error (CH op (a).i):=λh0=>by unfold Dq;rw [hka,he,Ab h0]
             (refine i_ rfl rfl ?_ ?_<;>intro h<;>simp only [nc]at h<;>try omega)
             .refine Aa (BN ..) rfl ?_
              (refine i_ rfl rfl ?_ ?_<;>intro h<;>simp only [nc]at h<;>try omega)
              refine Ar p1 rfl rfl (Ar p2 rfl rfl (Ar p3 rfl rfl (Bo (MC _) rfl ⟨?_,?_,trivial⟩)));rintro ws (⟨_,h0,rfl⟩|⟨h0,_⟩);have hw:=hw h0;refine AC rfl (λh12=>?_) (λh12=>?_);have h12:op<=12:=AR h12;rw [Ad (by omega)]at hw;have ht:tI (decide (¬H_ op kd a.i (a).i=0))=H_ op kd a.i (a).i:=(by rw [hi0 h0,My (by omega)];cases MG op a.i (a).i<;>rfl);rw [←ht]at hw;exact Aa (Av ..) rfl (Ar (VF _) rfl rfl (Fh (v:=⟨1,tI (decide (¬H_ op kd a.i (a).i=0)),some 0⟩) hs1 hl1 hw (by by_cases hb:H_ op kd a.i (a).i=0<;>simp [hb]<;>rfl) (λs' _=>rfl)));have h12:¬op<=12:=Cy h12;rw [Ab (by omega)]at hw;exact Fh (v:=⟨kd,H_ op kd a.i (a).i,some 0⟩) hs1 hl1 hw rfl (λs' _=>rfl);cases h0;rintro ws (⟨h0,_⟩|⟨_,h0,rfl⟩);cases h0;exact Ai (j:=1) rfl (.inr ⟨_,hx h0,rfl,rfl⟩)
             ·(refine i_ rfl rfl ?_ ?_<;>intro h<;>simp only [nc]at h<;>try omega)
              refine Ar p1 rfl rfl (Ar p2 rfl rfl (Ar p3 rfl rfl (Bo (MC _) rfl ⟨?_,?_,trivial⟩)));rintro ws (⟨_,h0,rfl⟩|⟨h0,_⟩);have hw:=hw h0;rw [Ab (by omega)]at hw;exact Fh (v:=⟨kd,H_ op kd a.i (a).i,some 0⟩) hs1 hl1 hw rfl (λs' _=>rfl);cases h0
              .rintro ws (⟨h0,_⟩|⟨_,h0,rfl⟩);cases h0
               .exact Ai (j:=1) rfl (.inr ⟨_,hx h0,rfl,rfl⟩))
def x9 {m:MS} {s:AV} {st:List FV} {a:FV} {i:GI} (hs:St (st++[a]) s) (hl:st.length<=90) (hk:2<=i.kd/\i.kd<=5) (hn:2<=i.n/\i.n<=5) (ta:TV a) (hka:a.k=i.n):
  A6 125 aW (KR m s++n_ i) (Kh m st (J_ i.kd a)):=by
 obtain ⟨op,kd,ad,n,vk,vi,vf⟩:=i;simp only at hk hn hka;have hl1:st.length<=100:=by omega
 refine BU H9_ cR rfl rfl (by kernel_rfl) λY hf hg=>?_;unfold cR;refine Bo (GU (m:=m) hs hl1) (show Ak (KR m s)=true from Fe m (St.okC hs)) ⟨?_,trivial⟩;rintro ws ⟨s1,hs1,rfl⟩;show AB Tryz.prog (QF (Kh m st (J_ kd a))) _ _ _
 (refine i_ rfl rfl ?_ ?_<;>intro h<;>simp only [nc]at h<;>try omega)
 .subst h
  (refine i_ rfl rfl ?_ ?_<;>intro h<;>simp only [nc]at h<;>try omega)
  have ha:a=⟨5,0,a.f⟩:=(by have h0:a.i=0:=(by rcases ta.1 with q|q|q|q|q<;>omega);obtain ⟨k,i,f⟩:=a;simp only at hka h0;subst hka h0;rw [h]);have hw:J_ 5 a=.ok ⟨5,0,a.f⟩:=(by unfold J_;rw [Ad rfl,Ad (by omega),←ha]);exact Fh (v:=⟨5,0,a.f⟩) hs1 hl1 hw rfl (λs' _=>rfl)
  .have h5:=h
   (refine i_ rfl rfl ?_ ?_<;>intro h<;>simp only [nc]at h<;>try omega)
   exact Aa (pM _) rfl (Fh (v:=⟨5,0,some (FloatKind.f64.nearest a.i)⟩) hs1 hl1 (by unfold J_;rw [Ad rfl,Ab (by omega)]) rfl (λs' _=>rfl))
 have hk4:2<=kd/\kd<=4:=by omega
 (refine i_ rfl rfl ?_ ?_<;>intro h<;>simp only [nc]at h<;>try omega)
 (refine i_ rfl rfl ?_ ?_<;>intro h<;>simp only [nc]at h<;>try omega)
 .have h5:=h;refine Ar (xT hk4 a.f) rfl rfl (Bo (MC _) rfl ⟨?_,?_,trivial⟩)
  .rintro ws (⟨_,h0,rfl⟩|⟨h0,_⟩)
   .cases hw:N_ kd a.f with
    |some n=>have e2:HB kd a.f=n:=(by unfold HB;rw [hw];rfl);rw [←e2]at hw;exact Fh (v:=⟨kd,HB kd a.f,some 0⟩) hs1 hl1 (by unfold J_;rw [Ab (by omega),Ad (by omega),hw]) rfl (λs' _=>rfl)
    |none=>unfold Fw at h0;rw [hw]at h0;cases h0
   cases h0
  .rintro ws (⟨h0,_⟩|⟨_,h0,rfl⟩);cases h0
   .cases hw:N_ kd a.f with
    |some n=>unfold Fw at h0;rw [hw]at h0;exact absurd rfl h0
    |none=>have e1:Fw kd a.f=7:=(by unfold Fw;rw [hw];rfl);exact Ai (j:=1) rfl (.inr ⟨7,by unfold J_;rw [Ab (by omega),Ad (by omega),hw],rfl,by show [AV.int .i64 (Fw kd a.f)]=_;rw [e1]⟩)
 have h5:=h;exact Ar (Kp _ _) rfl rfl (Fh (v:=⟨kd,K_ kd a.i,some 0⟩) hs1 hl1 (by unfold J_;rw [Ab (by omega),Ab (by omega)]) rfl (λs' _=>rfl))
end Go.Proofs.YtelnbodnjmldeaaGreat.vars
