/-
  flow: what expressions come to.
-/
import Derived.Test.YtjconanknjgpnaaGreatFA
import Derived.Test.YtjconanknjgpnaaGreatSzA
set_option maxRecDepth 100000
set_option linter.unusedVariables false
set_option linter.unusedSimpArgs false
namespace Go.Proofs.YtjconanknjgpnaaGreat.vars
open Go Go.Sx
theorem s_ (l:List FV) {i:Nat} (hi:i<l.length):(XOp.inb).run Tryz.prog [c_ l,.int .i64 (i:Int)]=some (.int .i64 (i:Int)):=wi_ (enc:=d_) hi .i64
theorem rp_ (l:List FV) {i:Nat} (hi:i<l.length):(XOp.ldx 46 3 0).run Tryz.prog [c_ l,.int .i64 (i:Int)]=some (.agg (d_ l[i])):=
 run_ldxN (ti:=(Tryz.prog.info? 46).get!) Tryz.underlying46 rfl (by kernel_rfl) (by kernel_rfl) us_ hi .i64
def MR (mem:List FV) (now left:Int):List AV:=[c_ mem,.int .i64 now,.int .i64 left]
def c72:VC:=⟨⟨[],[]⟩,[(55,[none])],[],1,true,[(39,ft39)]⟩
def t72:VT:=Cf 39 ft39 [64,65,J 13] 67 2<|Li (.iaddr 172) [.vsl 13 1 [J 0,J 1,J 2,J 3,.int .i64 (-1),J 7,J 32767,.int .i64 (-32768),J 2147483647,.int .i64 (-2147483648),J 100,J 9223372036854775807,.int .i64 (-9223372036854775808)],70] 72<|Li Z7 [72] 73<|.call 55 [66,73] 74 [none]<|Dn [74,71]
def c71:VC:=⟨⟨[],[]⟩,[],[],1,true,[(39,ft39)]⟩
def t71:VT:=Cf 39 ft39 [64,65,J 15] 66 2<|Li (.iaddr 143) [.vsl 15 1 [.flt .f64 0,.flt .f64 9223372036854775808,.flt .f64 4607182418800017408,.flt .f64 13830554455654793216,.flt .f64 4602678819172646912,.flt .f64 4612811918334230528,.flt .f64 13838998704956112896,.flt .f64 9094988921128908188,.flt .f64 2024,.flt .f64 9218868437227405312,.flt .f64 18442240474082181120,.nan .f64,.flt .f64 4674736413210574848,.flt .f64 4891288408196988160,.flt .f64 4636737291354636288],69] 71<|Li (.load 44) [71] 72<|Dn [72,70]
def c40:VC:=⟨⟨[],[]⟩,[],[],1,true,[(39,ft39),(71,ft71),(72,AM_)]⟩
def t40:VT:=Iq 66 1 67 (Cf 39 ft39 [64,65,J 2] 68 2<|Dn [J 1,71,.flt .f64 0,72])<|Iq 66 5 68 (Cf 71 ft71 [64,65] 69 2<|Dn [J 5,J 0,71,72])<|Cf 72 AM_ [64,65,66] 69 2<|Dn [66,72,.flt .f64 0,73]
def c15:VC:=⟨⟨[],[]⟩,[],[(0,[⟨[(4,.slx 0 0 0),(3,.slx 134 3 2),(0,.ptr 0 0)],[(0,[64,.slx 1 0 0])],135,3,[⟨134,3,2,3,none⟩],[],[]⟩])],1,true,[(39,ft39),(40,ft40)]⟩
def t15:VT:=.loop 66 0 [J 0,65,.vsl 21 3 [J 2,J 0,.flt .f64 0,J 1,J 0,.flt .f64 0,J 2,J 0,.flt .f64 0,J 1,J 0,.flt .f64 0,J 2,J 5,.flt .f64 0,J 3,J 0,.flt .f64 0,J 5,J 0,.flt .f64 0,J 4,J 0,.flt .f64 0,J 2,J 0,.flt .f64 0,J 2,J 0,.flt .f64 0,J 2,J 0,.flt .f64 0,J 2,J 0,.flt .f64 0,J 1,J 0,.flt .f64 0,J 4,J 0,.flt .f64 0,J 1,J 0,.flt .f64 0,J 4,J 0,.flt .f64 0,J 1,J 0,.flt .f64 0,J 2,J 0,.flt .f64 0,J 1,J 0,.flt .f64 0,J 1,J 0,.flt .f64 0,J 1,J 0,.flt .f64 0]] (.cons 3 (Li Qp [68] 69<|It Q4 [66,69] 70 (Cf 39 ft39 [64,67,J 3] 71 2<|It Qc [74,J 0] 76 (Li Q1 [68,66] 77<|Li Zh [68,77] 78<|Cf 40 ft40 [64,75,78] 79 4<|Li Q1 [68,66] 86<|Li Z3 [68,86,.agg [82,83,84]] 87<|Li Q2 [66,J 1] 88<|.chk (.same 68 87)<|.again 0 0 [88,85,87])<|Li Q2 [66,J 1] 77<|.again 0 0 [77,75,68])<|Dn [68,67]) .nil)
def DF_ (n:Int):List AV:=[.int .i64 n]
def BJ_ (o:Option Nat):List AV:=[fv o]
def W13:List Int:=[0,1,2,3,-1,7,32767,-32768,2147483647,-2147483648,100,9223372036854775807,-9223372036854775808]
def R15:List (Option Nat):=[some 0,some 9223372036854775808,some 4607182418800017408,some 13830554455654793216,some 4602678819172646912,some 4612811918334230528,some 13838998704956112896,some 9094988921128908188,some 2024,some 9218868437227405312,some 18442240474082181120,none,some 4674736413210574848,some 4891288408196988160,some 4636737291354636288]
theorem Ae_:∀x∈W13,-9223372036854775808<=x/\x<=9223372036854775807:=by decide
theorem p72 {l:List UInt8} {a:AV} {n:Nat} {k:Int} (hp:Pk l a) (hn:n<=l.length) (hk:2<=k/\k<=4):CF Tryz.prog 72 AM_ [a,.int .i64 (n:Int),.int .i64 k] (λ_ ws=>∃(r:Int) (n':Nat),ws=[.int .i64 r,.int .i64 (n':Int)]/\InK k r/\n'<=l.length):=by have hA:=hp.1.ok wt_;refine vh_ (c:=c72) (n:=300) (t:=t72) mo ov rfl (λY _=>vC_ _) (by kernel_rfl) λY hf hg=>?_;unfold t72;refine b_ (p39 (m:=13) hp hn (by decide) (by decide)) rfl (by simp only [okL,okC,hA]) ⟨?_,trivial⟩;rintro ws ⟨v,n',rfl,hv,hn'⟩;have hv':v<W13.length:=hv;have hi:=Ae_ _ (List.getElem_mem hv');refine vv_ (run_iaddr_sl (enc:=DF_) (w:=1) (e:=2) (ti:=(Tryz.prog.info? 2).get!) (l:=W13) Tryz.underlying172 (by kernel_rfl) (by kernel_rfl) (λ_=>rfl) hv' .i64) (kS_ (λ_=>rfl) _) ?_;rw [List.drop_eq_getElem_cons hv'];exact vv_ (sW_ Tryz.underlying2 rfl _ _) rfl (uG_ (p55 (by omega) _) rfl rfl (VOK_fin rfl ⟨_,n',rfl,wY_ (by omega) (by omega) hi.1 hi.2,hn'⟩))
theorem BT_ (o:Option Nat) (n:Int):okL [fv o,.int .i64 n]=true:=by cases o<;>rfl
theorem p71 {l:List UInt8} {a:AV} {n:Nat} (hp:Pk l a) (hn:n<=l.length):CF Tryz.prog 71 ft71 [a,.int .i64 (n:Int)] (λ_ ws=>∃(o:Option Nat) (n':Nat),ws=[fv o,.int .i64 (n':Int)]/\n'<=l.length):=by have hA:=hp.1.ok wt_;refine vh_ (c:=c71) (n:=300) (t:=t71) mo ov rfl (λY _=>vC_ _) (by kernel_rfl) λY hf hg=>?_;unfold t71;refine b_ (p39 (m:=15) hp hn (by decide) (by decide)) rfl (by simp only [okL,okC,hA]) ⟨?_,trivial⟩;rintro ws ⟨v,n',rfl,hv,hn'⟩;have hv':v<R15.length:=hv;refine vv_ (run_iaddr_sl (enc:=BJ_) (w:=1) (e:=44) (ti:=(Tryz.prog.info? 44).get!) (l:=R15) Tryz.underlying143 (by kernel_rfl) (by kernel_rfl) (λ_=>rfl) hv' .i64) (kS_ (λo=>by simp only [BJ_,okL,vM_]) _) ?_;rw [List.drop_eq_getElem_cons hv'];exact vv_ (sW_ Tryz.underlying44 rfl _ _) (vM_ _) (VOK_fin (BT_ _ _) ⟨_,n',rfl,hn'⟩)
def C2_ (l:List UInt8) (k:Int):Nat->List AV->Prop:=λ_ ws=>∃(v:FV) (n':Nat),ws=d_ v++[.int .i64 (n':Int)]/\TV v/\v.k=k/\n'<=l.length
theorem p40 {l:List UInt8} {a:AV} {n:Nat} {k:Int} (hp:Pk l a) (hn:n<=l.length) (hk:1<=k/\k<=5):CF Tryz.prog 40 ft40 [a,.int .i64 (n:Int),.int .i64 k] (C2_ l k):=by
 have hA:=hp.1.ok wt_;refine vh_ (c:=c40) (n:=300) (t:=t40) mo ov rfl (λY _=>vC_ _) (by kernel_rfl) λY hf hg=>?_;unfold t40
 (refine a_ rfl rfl ?_ ?_<;>intro h<;>simp only [nc]at h<;>try omega)
 subst h;refine b_ (p39 (m:=2) hp hn (by decide) (by decide)) rfl (by simp only [okL,okC,hA]) ⟨?_,trivial⟩;rintro ws ⟨v,n',rfl,hv,hn'⟩;exact VOK_fin rfl ⟨⟨1,v,some 0⟩,n',rfl,⟨.inl ⟨rfl,by show (0:Int)<=(v:Int);omega,by show (v:Int)<=1;omega⟩,λ_=>rfl⟩,rfl,hn'⟩
 (refine a_ rfl rfl ?_ ?_<;>intro h<;>simp only [nc]at h<;>try omega)
 subst h;refine b_ (p71 hp hn) rfl (by simp only [okL,okC,hA]) ⟨?_,trivial⟩;rintro ws ⟨o,n',rfl,hn'⟩;exact VOK_fin (AY_ ⟨5,0,o⟩ _) ⟨⟨5,0,o⟩,n',rfl,⟨.inr (.inr (.inr (.inr ⟨rfl,rfl⟩))),λh=>absurd rfl h⟩,rfl,hn'⟩;refine b_ (p72 hp hn (by omega)) rfl (by simp only [okL,okC,hA]) ⟨?_,trivial⟩;rintro ws ⟨r,n',rfl,hr,hn'⟩;exact VOK_fin rfl ⟨⟨k,r,some 0⟩,n',rfl,⟨hr,λ_=>rfl⟩,rfl,hn'⟩
def zW_:List FV:=[⟨2,0,some 0⟩,⟨1,0,some 0⟩,⟨2,0,some 0⟩,⟨1,0,some 0⟩,⟨2,5,some 0⟩,⟨3,0,some 0⟩,⟨5,0,some 0⟩,⟨4,0,some 0⟩,⟨2,0,some 0⟩,⟨2,0,some 0⟩,⟨2,0,some 0⟩,⟨2,0,some 0⟩,⟨1,0,some 0⟩,⟨4,0,some 0⟩,⟨1,0,some 0⟩,⟨4,0,some 0⟩,⟨1,0,some 0⟩,⟨2,0,some 0⟩,⟨1,0,some 0⟩,⟨1,0,some 0⟩,⟨1,0,some 0⟩]
theorem zX_:MemOk zW_:=by
 refine ⟨rfl,λv hv=>?_⟩;have:∀v∈zW_,(v.k=1\/v.k=2\/v.k=3\/v.k=4\/v.k=5)/\(v.i=0\/(v.i=5/\v.k=2))/\v.f=some 0:=by intro v hv;simp only [zW_,List.mem_cons,List.not_mem_nil,or_false]at hv;rcases hv with rfl|rfl|rfl|rfl|rfl|rfl|rfl|rfl|rfl|rfl|rfl|rfl|rfl|rfl|rfl|rfl|rfl|rfl|rfl|rfl|rfl<;>simp
 obtain ⟨h1,h2,h3⟩:=this v hv;refine ⟨?_,λ_=>h3⟩;unfold InK;omega
theorem MemOk.set {mem:List FV} (h:MemOk mem) {i:Nat} (hi:i<mem.length) {v:FV} (hv:TV v) (hk:v.k=mem[i].k):MemOk (mem.set i v):=by refine ⟨?_,λu hu=>?_⟩;rw [←h.1,List.map_set,hk];apply List.ext_getElem (by simp);intro j h1 h2;rw [List.getElem_set];split;rename_i e;subst e;simp;rfl;rcases List.mem_or_eq_of_mem_set hu with hu|rfl;exact h.2 u hu;exact hv
def C1_ (l:List UInt8):Nat->List AV->Prop:=λ_ ws=>∃(mem:List FV) (n':Nat),ws=[c_ mem,.int .i64 (n':Int)]/\MemOk mem/\n'<=l.length
theorem zt_ (l:List FV) {i:Nat} (hi:i<l.length):(XOp.ldx 3 3 0).run Tryz.prog [c_ l,.int .i64 (i:Int)]=some (.int .i64 l[i].k):=
 run_ldx1 (enc:=d_) Tryz.underlying3 rfl us_ hi (p:=[]) (r:=[.int .i64 l[i].i,fv l[i].f]) rfl rfl .i64
theorem vl_ (l:List FV) {i:Nat} (hi:i<l.length) (y:FV):(XOp.stx 46 3 0).run Tryz.prog [c_ l,.int .i64 (i:Int),.agg (d_ y)]=some (c_ (l.set i y)):=
 run_stx (ti:=(Tryz.prog.info? 46).get!) us_ hi (p:=[]) (q:=d_ l[i]) (r:=[]) (xs:=d_ y) rfl (.inl rfl) (by kernel_rfl) (by rw [us_];kernel_rfl) (wn_ (okV _)) (by simp) rfl (by rw [us_,us_]) (by simp) .i64
theorem vm_ (l:List FV) (i:Nat) (v:FV):(some (c_ l)=some .nsl/\some (c_ (l.set i v))=some .nsl)\/∃n z cs ds,some (c_ l)=some (.vsl n z cs)/\some (c_ (l.set i v))=some (.vsl n z ds):=by
 cases l with
 |nil=>exact .inl ⟨rfl,rfl⟩
 |cons x r=>
  cases i with
  |zero=>exact .inr ⟨_,_,_,_,rfl,rfl⟩
  |succ i=>refine .inr ⟨r.length+1,3,aR_ d_ (x::r),aR_ d_ (x::r.set i v),rfl,?_⟩;show some (AV.vsl ((r.set i v).length+1) 3 _)=_;rw [List.length_set]
theorem p15 {l:List UInt8} {a:AV} {n:Nat} (hp:Pk l a) (hn:n<=l.length):CF Tryz.prog 15 ft15 [a,.int .i64 (n:Int)] (C1_ l):=by
 have hA:=hp.1.ok wt_;refine vh_ (c:=c15) (n:=300) (t:=t15) mo ov rfl (λY _=>vC_ _) (by kernel_rfl) λY hf hg=>?_;unfold t15;refine uI_ (ι:=Nat×Nat×List FV) (λs=>[.int .i64 (s.1:Int),.int .i64 (s.2.1:Int),c_ s.2.2]) (λs=>s.1<=21/\s.2.1<=l.length/\MemOk s.2.2) (λs=>21-s.1) (0,n,zW_) ⟨Nat.zero_le _,hn,zX_⟩ rfl (λs _=>by simp only [okL,okC,aM_]) (λs s' _ _ h=>by simp at h;omega) (λs hs=>?_);obtain ⟨i,m,mem⟩:=s;obtain ⟨h1,h2,h3⟩:=hs;simp only at h1 h2 h3⊢;have hlen:=h3.len;refine vv_ (uy_ mem) rfl ?_
 (refine a_ rfl rfl ?_ ?_<;>intro h<;>simp only [nc]at h<;>try omega)
 .have hi:i<mem.length:=(by omega);refine b_ (p39 (n:=m) (m:=3) hp h2 (by decide) (by decide)) rfl (by simp only [okL,okC,hA]) ⟨?_,trivial⟩;rintro ws ⟨v,n',rfl,hv,hn'⟩
  (refine a_ rfl rfl ?_ ?_<;>intro h<;>simp only [nc]at h<;>try omega)
  have ⟨q1,q2⟩:=(h3.2 mem[i] (List.getElem_mem hi)).1.kd;refine vv_ (s_ mem hi) rfl (vv_ (zt_ mem hi) rfl ?_);refine b_ (p40 hp hn' ⟨q1,q2⟩) rfl (by simp only [okL,okC,hA]) ⟨?_,trivial⟩;rintro ws ⟨w,n2,rfl,tw,wk,hn2⟩;refine vv_ (s_ mem hi) rfl (vv_ (vl_ mem hi w) (aM_ _) (vv_ (g_ (by omega) (by omega)) rfl ?_));refine vd_ (vm_ mem i w) (uu_ rfl ⟨(i+1,n2,mem.set i w),⟨by omega,hn2,h3.set hi tw wk⟩,rfl,by simp only;omega⟩);exact vv_ (g_ (by omega) (by omega)) rfl (uu_ rfl ⟨(i+1,n',mem),⟨by omega,hn',h3⟩,rfl,by simp only;omega⟩)
 exact VOK_fin (by show okL [c_ mem,.int .i64 (m:Int)]=true;simp only [okL,okC,aM_]) ⟨mem,m,rfl,h3,h2⟩
structure RSt where
 mem:List FV
 left:Int
 e:Int
def bn_ (now at_ pt:Int):Int:=if now<=at_ then 0 else min (now-at_) pt
def bv (b:Bool):FV:=⟨1,tI b,some 0⟩
def tv (i:Int):FV:=⟨4,i,some 0⟩
def nv (i:Int):FV:=⟨2,i,some 0⟩
def uD_ (on at_:Int) (inn:Bool) (v now:Int):List FV:=
 if inn=false then [bv false,tv 0,bv false,tv 0]
 else if on=0 then [bv (decide (0=max v 0)),tv 0,bv true,tv now]
 else [bv (decide (bn_ now at_ (max v 0)=max v 0)),tv (bn_ now at_ (max v 0)),bv true,tv at_]
def tp_ (cv was:Int) (inn:Bool) (v:Int):List FV:=
 let c:=if inn=true/\was=0 then min (cv+1) 32767 else cv
 [bv (decide (v<=c)),nv c,bv inn]
def bs_ (was:Int) (inn:Bool):List FV:=[bv (inn&&decide (was=0)),bv inn]
def wS_ (mem:List FV) (at_:Nat) (cs:List FV):List FV:=mem.take at_++(cs++mem.drop (at_+cs.length))
def ci_ (mem:List FV) (n:Nat):Int:=(mem.getD n FV.z).i
def n_ (now kd:Int) (mem:List FV) (inn:Bool) (v:Int):List FV:=
 if kd=6 then wS_ mem 12 (uD_ (ci_ mem 14) (ci_ mem 15) inn v now)
 else if kd=9 then wS_ mem 16 (tp_ (ci_ mem 17) (ci_ mem 18) inn v)
 else wS_ mem 19 (bs_ (ci_ mem 20) inn)
def A8_ (mem:List FV):GX->Except Int Int
 | .mk op kd nm fd ad n vk vi vf args=>match yf_ mem args with
   | .error e=>.error e
   | .ok l=>if (l.headD FV.z).i<0\/n<=(l.headD FV.z).i then .error 6 else .ok (ad+(l.headD FV.z).i)
def D4_ (to e:GX) (mem:List FV) (left:Int):RSt:=match yg_ mem e with
 | .error er=>⟨mem,left,er⟩
 | .ok v=>if to.op=3 then (match A8_ mem to with
     | .error er=>⟨mem,left,er⟩
     | .ok a=>⟨mem.set a.toNat v,left,0⟩)
   else ⟨mem.set to.ad.toNat v,left,0⟩
def Bx_ (now kd:Int) (args:List GX) (mem:List FV) (left:Int):RSt:=match yf_ mem args with
 | .error er=>⟨mem,left,er⟩
 | .ok l=>⟨n_ now kd mem (decide ((l.headD FV.z).i≠0)) (l.tail.headD FV.z).i,left,0⟩
def Bb_ (f:GS->List FV->Int->RSt):List GS->List FV->Int->RSt
 |[],mem,left=>⟨mem,left,0⟩
 |s::r,mem,left=>if (f s mem left).e=0 then Bb_ f r (f s mem left).mem (f s mem left).left else f s mem left
def Cg_ (body:List FV->Int->RSt) (c:List FV->Except Int FV):Nat->List FV->Int->RSt
 |0,mem,left=>⟨mem,left,8⟩
 |n+1,mem,left=>if left-1<0 then ⟨mem,left-1,8⟩else match c mem with
  | .error e=>⟨mem,left-1,e⟩
  | .ok v=>if v.i=0 then ⟨mem,left-1,0⟩else if (body mem (left-1)).e=0 then Cg_ body c n (body mem (left-1)).mem (body mem (left-1)).left else body mem (left-1)
def Cf_ (now:Int):Nat->GS->List FV->Int->RSt
 |0,_,mem,left=>⟨mem,left,8⟩
 |d+1,.mk op to e thn els nm kd ad args,mem,left=>
  if op=1 then D4_ to e mem left
  else if op=2 then (match yg_ mem e with
   | .error er=>⟨mem,left,er⟩
   | .ok v=>Bb_ (Cf_ now d) (if v.i≠0 then thn else els) mem left)
  else if op=3 then Cg_ (Bb_ (Cf_ now d) thn) (λm=>yg_ m e) (left.toNat+1) mem left
  else Bx_ now kd args mem left
theorem MemOk.kd {mem:List FV} (h:MemOk mem) {i:Nat} (hi:i<mem.length):mem[i].k=vY_.getD i 0:=by rw [←h.1,List.getD_eq_getElem?_getD,List.getElem?_map,List.getElem?_eq_getElem hi];rfl
theorem wr_k:∀t∈wrL,2<=t.1/\t.1<21/\vY_.getD t.1.toNat 0=t.2:=by decide
theorem U_ {mem:List FV} (h:mem.length=21):∃m0 m1 m2 m3 m4 m5 m6 m7 m8 m9 m10 m11 m12 m13 m14 m15 m16 m17 m18 m19 m20,mem=[m0,m1,m2,m3,m4,m5,m6,m7,m8,m9,m10,m11,m12,m13,m14,m15,m16,m17,m18,m19,m20]:=by
 rcases mem with _|⟨m0,mem⟩;· simp at h
 rcases mem with _|⟨m1,mem⟩;· simp at h
 rcases mem with _|⟨m2,mem⟩;· simp at h
 rcases mem with _|⟨m3,mem⟩;· simp at h
 rcases mem with _|⟨m4,mem⟩;· simp at h
 rcases mem with _|⟨m5,mem⟩;· simp at h
 rcases mem with _|⟨m6,mem⟩;· simp at h
 rcases mem with _|⟨m7,mem⟩;· simp at h
 rcases mem with _|⟨m8,mem⟩;· simp at h
 rcases mem with _|⟨m9,mem⟩;· simp at h
 rcases mem with _|⟨m10,mem⟩;· simp at h
 rcases mem with _|⟨m11,mem⟩;· simp at h
 rcases mem with _|⟨m12,mem⟩;· simp at h
 rcases mem with _|⟨m13,mem⟩;· simp at h
 rcases mem with _|⟨m14,mem⟩;· simp at h
 rcases mem with _|⟨m15,mem⟩;· simp at h
 rcases mem with _|⟨m16,mem⟩;· simp at h
 rcases mem with _|⟨m17,mem⟩;· simp at h
 rcases mem with _|⟨m18,mem⟩;· simp at h
 rcases mem with _|⟨m19,mem⟩;· simp at h
 rcases mem with _|⟨m20,mem⟩;· simp at h
 rcases mem with _|⟨x,mem⟩;exact ⟨_,_,_,_,_,_,_,_,_,_,_,_,_,_,_,_,_,_,_,_,_,rfl⟩;simp at h
theorem MemOk.of {m0 m1 m2 m3 m4 m5 m6 m7 m8 m9 m10 m11 m12 m13 m14 m15 m16 m17 m18 m19 m20:FV}:MemOk [m0,m1,m2,m3,m4,m5,m6,m7,m8,m9,m10,m11,m12,m13,m14,m15,m16,m17,m18,m19,m20]↔(m0.k=2/\m1.k=1/\m2.k=2/\m3.k=1/\m4.k=2/\m5.k=3/\m6.k=5/\m7.k=4/\m8.k=2/\m9.k=2/\m10.k=2/\m11.k=2/\m12.k=1/\m13.k=4/\m14.k=1/\m15.k=4/\m16.k=1/\m17.k=2/\m18.k=1/\m19.k=1/\m20.k=1)/\(TV m0/\TV m1/\TV m2/\TV m3/\TV m4/\TV m5/\TV m6/\TV m7/\TV m8/\TV m9/\TV m10/\TV m11/\TV m12/\TV m13/\TV m14/\TV m15/\TV m16/\TV m17/\TV m18/\TV m19/\TV m20):=by unfold MemOk vY_;constructor;rintro ⟨h1,h2⟩;refine ⟨by simpa using h1,?_⟩;simpa using h2;rintro ⟨h1,h2⟩;refine ⟨by simpa using h1,?_⟩;simpa using h2
theorem vR_ (b:Bool):TV (bv b)/\(bv b).k=1:=⟨⟨wk_ b,λ_=>rfl⟩,rfl⟩
theorem w7_ {i:Int} (h1: -9223372036854775808<=i) (h2:i<=9223372036854775807):TV (tv i)/\(tv i).k=4:=⟨⟨.inr (.inr (.inr (.inl ⟨rfl,h1,h2⟩))),λ_=>rfl⟩,rfl⟩
theorem Bk_ {i:Int} (h1: -32768<=i) (h2:i<=32767):TV (nv i)/\(nv i).k=2:=⟨⟨.inr (.inl ⟨rfl,h1,h2⟩),λ_=>rfl⟩,rfl⟩
theorem z1_ {now at_ pt:Int} (h:0<=pt):0<=bn_ now at_ pt/\bn_ now at_ pt<=pt:=by unfold bn_;split<;>omega
theorem x6_ (on at_:Int) (inn:Bool) {v now:Int} (hv:v<=9223372036854775807) (hn: -9223372036854775808<=now/\now<=9223372036854775807) (ha: -9223372036854775808<=at_/\at_<=9223372036854775807):
  ∃a b c d,uD_ on at_ inn v now=[a,b,c,d]/\(TV a/\a.k=1)/\(TV b/\b.k=4)/\(TV c/\c.k=1)/\(TV d/\d.k=4):=by
 unfold uD_;split;exact ⟨_,_,_,_,rfl,vR_ _,w7_ (by omega) (by omega),vR_ _,w7_ (by omega) (by omega)⟩;split;exact ⟨_,_,_,_,rfl,vR_ _,w7_ (by omega) (by omega),vR_ _,w7_ hn.1 hn.2⟩;have:=z1_ (now:=now) (at_:=at_) (pt:=max v 0) (by omega);exact ⟨_,_,_,_,rfl,vR_ _,w7_ (by omega) (by omega),vR_ _,w7_ ha.1 ha.2⟩
theorem xW_ {cv:Int} (was:Int) (inn:Bool) (v:Int) (hc: -32768<=cv/\cv<=32767):∃a b c,tp_ cv was inn v=[a,b,c]/\(TV a/\a.k=1)/\(TV b/\b.k=2)/\(TV c/\c.k=1):=by
 refine ⟨_,_,_,rfl,vR_ _,Bk_ ?_ ?_,vR_ _⟩
 .split<;>omega
 .split<;>omega
theorem w8_ {kd ad:Int} {ks:List Int} (hb:Blk kd ad ks) {mem:List FV} (hm:MemOk mem) (inn:Bool) {v now:Int} (hv:v<=9223372036854775807) (hn: -9223372036854775808<=now/\now<=9223372036854775807):
  MemOk (n_ now kd mem inn v)/\(n_ now kd mem inn v)[0]? =mem[0]? /\(n_ now kd mem inn v)[1]? =mem[1]? :=by
 obtain ⟨m0,m1,m2,m3,m4,m5,m6,m7,m8,m9,m10,m11,m12,m13,m14,m15,m16,m17,m18,m19,m20,rfl⟩:=U_ hm.len;have hm':=MemOk.of.1 hm;obtain ⟨⟨k0,k1,k2,k3,k4,k5,k6,k7,k8,k9,k10,k11,k12,k13,k14,k15,k16,k17,k18,k19,k20⟩,t0,t1,t2,t3,t4,t5,t6,t7,t8,t9,t10,t11,t12,t13,t14,t15,t16,t17,t18,t19,t20⟩:=hm';rcases hb with ⟨rfl,_⟩|⟨rfl,_⟩|⟨rfl,_⟩;have ha:=t15.1.i64;obtain ⟨a,b,c,d,e,⟨ta,ka⟩,⟨tb,kb⟩,⟨tc,kc⟩,td,kd'⟩:=x6_ m14.i m15.i inn hv hn ha;have e2:n_ now 6 [m0,m1,m2,m3,m4,m5,m6,m7,m8,m9,m10,m11,m12,m13,m14,m15,m16,m17,m18,m19,m20] inn v=[m0,m1,m2,m3,m4,m5,m6,m7,m8,m9,m10,m11,a,b,c,d,m16,m17,m18,m19,m20]:=(by show wS_ _ 12 (uD_ m14.i m15.i inn v now)=_;rw [e];rfl);rw [e2];exact ⟨MemOk.of.2 ⟨⟨k0,k1,k2,k3,k4,k5,k6,k7,k8,k9,k10,k11,ka,kb,kc,kd',k16,k17,k18,k19,k20⟩,t0,t1,t2,t3,t4,t5,t6,t7,t8,t9,t10,t11,ta,tb,tc,td,t16,t17,t18,t19,t20⟩,rfl,rfl⟩;have hc: -32768<=m17.i/\m17.i<=32767:=(by rcases t17.1 with q|q|q|q|q<;>omega);obtain ⟨a,b,c,e,⟨ta,ka⟩,⟨tb,kb⟩,tc,kc⟩:=xW_ m18.i inn v hc;have e2:n_ now 9 [m0,m1,m2,m3,m4,m5,m6,m7,m8,m9,m10,m11,m12,m13,m14,m15,m16,m17,m18,m19,m20] inn v=[m0,m1,m2,m3,m4,m5,m6,m7,m8,m9,m10,m11,m12,m13,m14,m15,a,b,c,m19,m20]:=(by show wS_ _ 16 (tp_ m17.i m18.i inn v)=_;rw [e];rfl);rw [e2];exact ⟨MemOk.of.2 ⟨⟨k0,k1,k2,k3,k4,k5,k6,k7,k8,k9,k10,k11,k12,k13,k14,k15,ka,kb,kc,k19,k20⟩,t0,t1,t2,t3,t4,t5,t6,t7,t8,t9,t10,t11,t12,t13,t14,t15,ta,tb,tc,t19,t20⟩,rfl,rfl⟩;have ⟨ta,ka⟩:=vR_ (inn&&decide (m20.i=0));have ⟨tb,kb⟩:=vR_ inn;have e2:n_ now 11 [m0,m1,m2,m3,m4,m5,m6,m7,m8,m9,m10,m11,m12,m13,m14,m15,m16,m17,m18,m19,m20] inn v=[m0,m1,m2,m3,m4,m5,m6,m7,m8,m9,m10,m11,m12,m13,m14,m15,m16,m17,m18,bv (inn&&decide (m20.i=0)),bv inn]:=rfl;rw [e2];exact ⟨MemOk.of.2 ⟨⟨k0,k1,k2,k3,k4,k5,k6,k7,k8,k9,k10,k11,k12,k13,k14,k15,k16,k17,k18,ka,kb⟩,t0,t1,t2,t3,t4,t5,t6,t7,t8,t9,t10,t11,t12,t13,t14,t15,t16,t17,t18,ta,tb⟩,rfl,rfl⟩
structure MS where
 pc:Int
 st:List FV
 mem:List FV
 used:Int
 now:Int
 over:Bool
 err:Int
def f_ (i:GI):Nat:=if i.op=1\/i.op=2\/i.op=20\/i.op=23 then 0 else if i.op=3\/i.op=15\/i.op=16\/i.op=17\/i.op=18\/i.op=21 then 1 else if i.op=22 then i.n.toNat else 2
def AW_ (i:GI):FV:=⟨i.vk,i.vi,some i.vf⟩
def v0_ (i:GI) (mem:List FV) (a b:FV):Except Int FV:=if i.op=1 then .ok (AW_ i)else if i.op=2 then .ok (cell mem i.ad)else wz_ mem i.op i.kd i.ad i.n a b
def vN_ (m:MS) (e:Int):MS:=⟨m.pc,m.st,m.mem,m.used+1,m.now,m.over,e⟩
def goM (m:MS) (pc:Int) (st mem:List FV):MS:=⟨pc,st,mem,m.used+1,m.now,m.over,m.err⟩
def doI (i:GI) (m:MS) (rest inn:List FV):MS:=
 if i.op<=17 then (match v0_ i m.mem (inn.headD FV.z) (inn.getLastD FV.z)with
  | .error e=>vN_ m e
  | .ok v=>goM m (m.pc+1) (rest++[v]) m.mem)
 else if i.op=18 then goM m (m.pc+1) rest (m.mem.set i.ad.toNat (inn.headD FV.z))
 else if i.op=19 then (if (inn.getLastD FV.z).i<0\/i.n<=(inn.getLastD FV.z).i then vN_ m 6 else goM m (m.pc+1) rest (m.mem.set (i.ad+(inn.getLastD FV.z).i).toNat (inn.headD FV.z)))
 else if i.op=20 then goM m i.ad rest m.mem
 else if i.op=21 then goM m (if (inn.headD FV.z).i=0 then i.ad else m.pc+1) rest m.mem
 else if i.op=22 then goM m (m.pc+1) rest (n_ m.now i.kd m.mem (decide ((inn.headD FV.z).i≠0)) (inn.tail.headD FV.z).i)
 else ⟨m.pc,rest,m.mem,m.used+1,m.now,true,m.err⟩
def wN_ (l:List GI) (m:MS):GI:=l.getD m.pc.toNat (v_ 23 0 0 0)
def u_ (l:List GI) (m:MS):MS:=if m.over=true\/m.err≠0 then m else
 doI (wN_ l m) m (m.st.take (m.st.length-f_ (wN_ l m))) (m.st.drop (m.st.length-f_ (wN_ l m)))
def TI (T:List (List Int)) (p:Nat) (i:GI) (K:List Int):Prop:=
 ∃K0 ks,K=K0++ks/\ks.length=f_ i/\K.length<=40/\(
  (∃k,T[p+1]? =some (K0++[k])/\(
    (i.op=1/\TV (AW_ i)/\i.vk=k)\/(i.op=2/\(i.ad,k)∈u6_)\/
    (i.op=3/\i.ad=8/\i.n=4/\k=2/\(ks=[2]\/ks=[3]))\/
    (i.op=17/\2<=i.kd/\i.kd<=5/\k=i.kd/\ks=[i.n]/\2<=i.n/\i.n<=5)\/
    (OpK i.op i.kd/\k=(if 9<=i.op/\i.op<=12 then 1 else i.kd)/\(ks=[i.kd]/\(i.op=15\/i.op=16)\/ks=[i.kd,i.kd]/\i.op<=14))))\/
  (T[p+1]? =some K0/\(
    (i.op=18/\∃k,ks=[k]/\(i.ad,k)∈wrL)\/
    (i.op=19/\i.ad=8/\i.n=4/\(ks=[2,2]\/ks=[2,3]))\/
    (i.op=22/\Blk i.kd i.ad ks/\i.n=(ks.length:Int))\/
    (i.op=21/\ks=[1]/\∃q:Nat,i.ad=(q:Int)/\T[q]? =some K0)))\/
  (i.op=20/\∃q:Nat,i.ad=(q:Int)/\T[q]? =some K0)\/
  i.op=23)
mutual
def tyE:List Int->GX->List (List Int)
 |K,.mk op kd nm fd ad n vk vi vf args=>wV_ K args++[K++args.map GX.kd]
def wV_:List Int->List GX->List (List Int)
 |_,[]=>[]
 |K,a::r=>tyE K a++wV_ (K++[a.kd]) r
end
mutual
theorem z_:∀(K:List Int) (x:GX),(tyE K x).length=(B_ x).length
 |K,.mk op kd nm fd ad n vk vi vf args=>by simp only [tyE,B_,List.length_append,List.length_singleton,K_ K args]
theorem K_:∀(K:List Int) (l:List GX),(wV_ K l).length=(j_ l).length
 |_,[]=>rfl
 |K,a::r=>by simp only [wV_,j_,List.length_append,z_ K a,K_ _ r]
end
mutual
theorem vn_:∀(K:List Int) (x:GX) (r:List (List Int)),(tyE K x++r)[0]? =some K
 |K,.mk op kd nm fd ad n vk vi vf args,r=>by simp only [tyE,List.append_assoc,List.singleton_append];exact vL_ K args r
theorem vL_:∀(K:List Int) (l:List GX) (r:List (List Int)),(wV_ K l++(K++l.map GX.kd)::r)[0]? =some K
 |K,[],r=>by simp only [wV_,List.map_nil,List.append_nil,List.nil_append];rfl
 |K,a::l,r=>by simp only [wV_,List.append_assoc];exact vn_ K a _
end
def x8_ (k:Int):GX->List (List Int)
 | .mk op _ _ _ ad n _ _ _ args=>if op=3 then wV_ [k] args++[[k]++args.map GX.kd]else [[k]]
mutual
def tyS:GS->List (List Int)
 | .mk op to e thn els nm kd ad args=>
   if op=1 then tyE [] e++x8_ e.kd to
   else if op=2 then (if els=[]then tyE [] e++([1]::ww_ thn)else tyE [] e++([1]::(ww_ thn++([]::ww_ els))))
   else if op=3 then tyE [] e++([1]::(ww_ thn++[[]]))
   else wV_ [] args++[args.map GX.kd]
def ww_:List GS->List (List Int)
 |[]=>[]
 |s::r=>tyS s++ww_ r
end
theorem zI_ (k:Int) (x:GX):(x8_ k x).length=(vT_ x).length:=by obtain ⟨op,kd,nm,fd,ad,n,vk,vi,vf,args⟩:=x;simp only [x8_,vT_];split;simp only [List.length_append,List.length_singleton,K_];rfl
mutual
theorem xt_:∀(s:GS) (b:Nat),(tyS s).length=(sU_ b s).length
 | .mk op to e thn els nm kd ad args,b=>by simp only [tyS,sU_];split;simp only [List.length_append,z_,zI_];split;split;simp only [List.length_append,List.length_cons,List.length_nil,z_,D_ thn (b+(B_ e).length+1)];omega;simp only [List.length_append,List.length_cons,List.length_nil,z_,D_ thn (b+(B_ e).length+1),D_ els (b+(B_ e).length+1+(h_ (b+(B_ e).length+1) thn).length+1)];omega;split;simp only [List.length_append,List.length_cons,List.length_nil,z_,D_ thn (b+(B_ e).length+1)];omega;simp only [List.length_append,List.length_cons,List.length_nil,K_]
theorem D_:∀(l:List GS) (b:Nat),(ww_ l).length=(h_ b l).length
 |[],_=>rfl
 |s::r,b=>by simp only [ww_,h_,List.length_append,xt_ s b,D_ r (b+(sU_ b s).length)]
end
theorem zH_ (s:GS) (r:List (List Int)) (h:∃d,TS d s):(tyS s++r)[0]? =some []:=by
 obtain ⟨op,to,e,thn,els,nm,kd,ad,args⟩:=s;simp only [tyS];split;rw [List.append_assoc];exact vn_ [] e _;split
 .split<;>(rw [List.append_assoc];exact vn_ [] e _)
 split;rw [List.append_assoc];exact vn_ [] e _;rw [List.append_assoc];exact vL_ [] args _
theorem X_ (l:List GS) (r:List (List Int)) (h:∀s∈l,∃d,TS d s):(ww_ l++[]::r)[0]? =some []:=by
 cases l with
 |nil=>rfl
 |cons s l=>simp only [ww_,List.append_assoc];exact zH_ s _ (h s List.mem_cons_self)
structure Seg (l:List GI) (T:List (List Int)) (b:Nat) (s:List GI) (t:List (List Int)) (Ko:List Int):Prop where
 len:t.length=s.length
 at_:∀j,j<s.length->l[b+j]? =s[j]?
 ty:∀j,j<=s.length->T[b+j]? =(t++[Ko])[j]?
def Good (T:List (List Int)) (b:Nat) (s:List GI):Prop:=∀(j:Nat) (i:GI) (K:List Int),s[j]? =some i->T[b+j]? =some K->TI T (b+j) i K
theorem Seg.fst {l:List GI} {T:List (List Int)} {b:Nat} {s s2:List GI} {t t2:List (List Int)} {Ko K1:List Int} (h:Seg l T b (s++s2) (t++t2) Ko) (hl:t.length=s.length) (h1:(t2++[Ko])[0]? =some K1):Seg l T b s t K1:=by have hlen:=h.len;simp only [List.length_append]at hlen;refine ⟨hl,λj hj=>?_,λj hj=>?_⟩;rw [h.at_ j (by rw [List.length_append];omega),List.getElem?_append_left hj];rw [h.ty j (by rw [List.length_append];omega),List.append_assoc];by_cases e:j<t.length;rw [List.getElem?_append_left e,List.getElem?_append_left e];have e:j=t.length:=(by omega);subst e;rw [List.getElem?_append_right (Nat.le_refl _),List.getElem?_append_right (Nat.le_refl _),Nat.sub_self,h1];rfl
theorem Seg.snd {l:List GI} {T:List (List Int)} {b:Nat} {s s2:List GI} {t t2:List (List Int)} {Ko:List Int} (h:Seg l T b (s++s2) (t++t2) Ko) (hl:t.length=s.length):Seg l T (b+s.length) s2 t2 Ko:=by have hlen:=h.len;simp only [List.length_append]at hlen;refine ⟨by omega,λj hj=>?_,λj hj=>?_⟩;rw [Nat.add_assoc,h.at_ _ (by rw [List.length_append];omega),List.getElem?_append_right (by omega),Nat.add_sub_cancel_left];rw [Nat.add_assoc,h.ty _ (by rw [List.length_append];omega),List.append_assoc,List.getElem?_append_right (by omega),←hl,Nat.add_sub_cancel_left]
theorem Good.app {T:List (List Int)} {b:Nat} {s s2:List GI} (h1:Good T b s) (h2:Good T (b+s.length) s2):Good T b (s++s2):=λj i K hi hK=>by by_cases e:j<s.length;rw [List.getElem?_append_left e]at hi;exact h1 j i K hi hK;rw [List.getElem?_append_right (by omega)]at hi;obtain ⟨d,rfl⟩:∃d,j=s.length+d:=⟨j-s.length,by omega⟩;rw [Nat.add_sub_cancel_left]at hi;rw [←Nat.add_assoc]at hK⊢;exact h2 d i K hi hK
theorem Good.one {l:List GI} {T:List (List Int)} {b:Nat} {i:GI} {K Ko:List Int} (h:Seg l T b [i] [K] Ko) (hi:T[b]? =some K->T[b+1]? =some Ko->TI T b i K):Good T b [i]:=λj i' K' hi' hK=>by
 have e:j=0:=by
  cases j with
  |zero=>rfl
  |succ j=>simp at hi'
 subst e;cases hi';have h0:=h.ty 0 (Nat.zero_le _);have h1:=h.ty 1 (Nat.le_refl _);rw [Nat.add_zero]at h0 hK⊢;rw [show ([K]++[Ko])[0]? =some K from rfl]at h0;rw [h0]at hK;cases hK;exact hi h0 h1
section
variable {l:List GI} {T:List (List Int)}
theorem xb_ {op kd ad n vk vi:Int} {vf:Nat} {args:List GX} (h:4<=op/\op<=14):v6_ op kd ad n vk vi vf args=v_ op (kd0 args) 0 0:=by unfold v6_;rw [if_neg (by omega),if_neg (by omega),if_neg (by omega),if_neg (by omega)]
theorem yR_ {i:GI} (h:4<=i.op/\i.op<=14):f_ i=2:=by unfold f_;rw [if_neg (by omega),if_neg (by omega),if_neg (by omega)]
theorem xP_ {op kd ad n vk vi:Int} {vf:Nat} {args:List GX} (h:Ari op args.length):f_ (v6_ op kd ad n vk vi vf args)=args.length:=by unfold Ari at h;rcases h with ⟨rfl|rfl,h⟩|⟨rfl|rfl|rfl|rfl,h⟩|⟨h1,h⟩;rw [h];rfl;rw [h];rfl;rw [h];rfl;rw [h];rfl;rw [h];rfl;rw [h];rfl;rw [h,xb_ h1];exact yR_ h1
theorem yq_ {args:List GX} {k:Int} {r:List Int} (h:args.map GX.kd=k::r):kd0 args=k:=by
 cases args with
 |nil=>cases h
 |cons a t=>rw [List.map_cons,List.cons.injEq]at h;exact h.1
theorem zB_ {d b:Nat} {op kd:Int} {nm fd:List UInt8} {ad n vk vi:Int} {vf:Nat} {args:List GX} {K:List Int} (h:TX (d+1) (.mk op kd nm fd ad n vk vi vf args)) (hK:K.length+2<=40) (hn:T[b+1]? =some (K++[kd])):
  TI T b (v6_ op kd ad n vk vi vf args) (K++args.map GX.kd):=by
 have hal:args.length<=2:=by have:=h.1;unfold Ari at this;omega
 have hL:(K++args.map GX.kd).length<=40:=by rw [List.length_append,List.length_map];omega
 obtain ⟨a1,a2,a3,a4,⟨k1,k2,k3,k4,k5,k6,k7⟩,a6⟩:=id h;refine ⟨K,args.map GX.kd,rfl,by rw [List.length_map,xP_ a1],hL,.inl ⟨kd,hn,?_⟩⟩;have ha:=a1;unfold Ari at ha;rcases ha with ⟨rfl|rfl,h0⟩|⟨rfl|rfl|rfl|rfl,h0⟩|⟨h1,h0⟩;exact .inl ⟨rfl,(zf_ h rfl).1,(zf_ h rfl).2⟩;exact .inr (.inl ⟨rfl,k2 rfl⟩);obtain ⟨q1,q2,q3,k,q4,q5⟩:=k3 rfl;refine .inr (.inr (.inl ⟨rfl,q1,q2,q3,?_⟩));rw [q4];rcases q5 with rfl|rfl;exact .inl rfl;exact .inr rfl
 .obtain ⟨q1,q2⟩:=k5 rfl;have e:=yq_ q2;rw [q1,q2];refine .inr (.inr (.inr (.inr ⟨?_,?_,?_⟩)));show OpK 15 (kd0 args);rw [e];unfold OpK;omega
  .show (1:Int)=if (9:Int)<=15/\(15:Int)<=12 then 1 else kd0 args
   rw [e];rfl
  show [1]=[kd0 args]/\_\/_;rw [e];exact .inl ⟨rfl,.inl rfl⟩
 .obtain ⟨q1,q2,q3⟩:=k6 rfl;have e:=yq_ q1;rw [q1];refine .inr (.inr (.inr (.inr ⟨?_,?_,?_⟩)));show OpK 16 (kd0 args);rw [e];unfold OpK;omega
  .show kd=if (9:Int)<=16/\(16:Int)<=12 then 1 else kd0 args
   rw [e];rfl
  show [kd]=[kd0 args]/\_\/_;rw [e];exact .inl ⟨rfl,.inr rfl⟩
 obtain ⟨q1,q2,k,q3,q4,q5⟩:=k7 rfl;have e:=yq_ q3;rw [q3];refine .inr (.inr (.inr (.inl ⟨rfl,q1,q2,rfl,?_,?_,?_⟩)));show [k]=[kd0 args];rw [e];show 2<=kd0 args;rw [e];exact q4;show kd0 args<=5;rw [e];exact q5
 .obtain ⟨k,q1,q2,q3,q4,q5,q6,q7,q8⟩:=k4 h1;have e:=yq_ q1;clear k1 k2 k3 k4 k5 k6 k7;rw [q1,xb_ h1];refine .inr (.inr (.inr (.inr ⟨?_,?_,?_⟩)));show OpK op (kd0 args);rw [e];unfold OpK;omega
  .show kd=if 9<=op/\op<=12 then 1 else kd0 args
   rw [e];split;omega;omega
  show [k,k]=[kd0 args]/\_\/[k,k]=[kd0 args,kd0 args]/\_;rw [e];exact .inr ⟨rfl,h1.2⟩
mutual
theorem xD_:∀(x:GX) (d:Nat),TX d x->∀(K:List Int) (b:Nat),K.length+2*d<=40->Seg l T b (B_ x) (tyE K x) (K++[x.kd])->Good T b (B_ x)
 | .mk op kd nm fd ad n vk vi vf args,0,h,_,_,_,_=>h.elim
 | .mk op kd nm fd ad n vk vi vf args,d+1,h,K,b,hK,hs=>by simp only [B_,tyE]at hs⊢;have hal:args.length<=2:=(by have:=h.1;unfold Ari at this;omega);refine Good.app (xo_ args d h.2.2.2.2.2 K b (by omega) (hs.fst (K_ K args) rfl)) ?_;exact Good.one (hs.snd (K_ K args)) λ_ h1=>zB_ h (by omega) h1
theorem xo_:∀(args:List GX) (d:Nat),(∀a∈args,TX d a)->∀(K:List Int) (b:Nat),K.length+args.length+2*d<=40->Seg l T b (j_ args) (wV_ K args) (K++args.map GX.kd)->Good T b (j_ args)
 |[],_,_,_,_,_,_=>λj i K hi _=>by simp [j_]at hi
 |a::r,d,h,K,b,hK,hs=>by simp only [j_,wV_,List.map_cons,List.length_cons]at hs hK⊢;rw [show K++a.kd::r.map GX.kd=(K++[a.kd])++r.map GX.kd by simp]at hs;refine Good.app (xD_ a d (h a List.mem_cons_self) K b (by omega) (hs.fst (z_ K a) (vL_ _ r []))) ?_;exact xo_ r d (λx hx=>h x (List.mem_cons_of_mem _ hx)) _ _ (by simp only [List.length_append,List.length_singleton];omega) (hs.snd (z_ K a))
end
theorem AT_ {to:GX} {k:Int} {b:Nat} (h:TX 5 to) (hw:to.op=2/\(to.ad,to.kd)∈wrL\/to.op=3) (hk:k=to.kd) (hs:Seg l T b (vT_ to) (x8_ k to) []):Good T b (vT_ to):=by obtain ⟨op,kd,nm,fd,ad,n,vk,vi,vf,args⟩:=to;simp only [vT_,x8_]at hs⊢;by_cases h3:op=3;rw [if_pos h3]at hs⊢;rw [if_pos h3]at hs;have hal:args.length<=2:=(by have:=h.1;unfold Ari at this;omega);refine Good.app (xo_ args 4 h.2.2.2.2.2 [k] b (by show 1+args.length+8<=40;omega) (hs.fst (K_ _ args) rfl)) ?_;refine Good.one (hs.snd (K_ _ args)) λ_ h1=>?_;obtain ⟨q1,q2,q3,k',q4,q5⟩:=h.2.2.2.2.1.2.2.1 h3;refine ⟨[],[k]++args.map GX.kd,rfl,by rw [q4];rfl,by rw [q4];show (2:Nat)<=40;decide,.inr (.inl ⟨h1,.inr (.inl ⟨rfl,q1,q2,?_⟩)⟩)⟩;have hk:k=kd:=hk;rw [q4,hk,q3];rcases q5 with rfl|rfl;exact .inl rfl;exact .inr rfl;rw [if_neg h3]at hs⊢;rw [if_neg h3]at hs;refine Good.one hs λ_ h1=>?_;rcases hw with ⟨_,hw⟩|hw;exact ⟨[],[k],rfl,rfl,by show (1:Nat)<=40;decide,.inr (.inl ⟨h1,.inl ⟨rfl,k,rfl,by rw [hk];exact hw⟩⟩)⟩;exact absurd hw h3
theorem ty0 {b:Nat} {s:List GI} {t:List (List Int)} {Ko K:List Int} (h:Seg l T b s t Ko) (h0:(t++[Ko])[0]? =some K):T[b]? =some K:=by have:=h.ty 0 (Nat.zero_le _);rw [h0]at this;exact this
theorem Ad_ {b:Nat} {s:List GI} {t:List (List Int)} {Ko:List Int} (h:Seg l T b s t Ko):T[b+s.length]? =some Ko:=by rw [h.ty _ (Nat.le_refl _),List.getElem?_append_right (by rw [h.len];exact Nat.le_refl _),h.len,Nat.sub_self];rfl
theorem xN_ (i:GI) (s:List GI):i::s=[i]++s:=rfl
theorem yv_ (K:List Int) (t:List (List Int)):K::t=[K]++t:=rfl
theorem y9_ {b:Nat} {q:Nat} (h1:T[b+1]? =some []) (hq:T[q]? =some []):TI T b (v_ 21 0 (q:Int) 0) [1]:=
 ⟨[],[1],rfl,rfl,by decide,.inr (.inl ⟨h1,.inr (.inr (.inr ⟨rfl,rfl,q,rfl,hq⟩))⟩)⟩
theorem Ak_ {b:Nat} {q:Nat} (hq:T[q]? =some []):TI T b (v_ 20 0 (q:Int) 0) []:=
 ⟨[],[],rfl,rfl,by decide,.inr (.inr (.inl ⟨rfl,q,rfl,hq⟩))⟩
mutual
theorem BP_:∀(s:GS) (d:Nat),TS d s->∀b:Nat,Seg l T b (sU_ b s) (tyS s) []->Good T b (sU_ b s)
 | .mk op to e thn els nm kd ad args,0,h,_,_=>h.elim
 | .mk op to e thn els nm kd ad args,d+1,h,b,hs=>by
   simp only [sU_,tyS]at hs⊢;rcases h with ⟨h1,h2,h3,h4,h5,_⟩|⟨h1,h2,h3,h4,h5,h6,h7⟩|⟨h1,h2,h3,_⟩
   .simp only [if_pos h1]at hs⊢;have hh:(x8_ e.kd to++[[]])[0]? =some [e.kd]:=by obtain ⟨op,kd,nm,fd,ad,n,vk,vi,vf,args⟩:=to;simp only [x8_];split;rw [List.append_assoc];exact vL_ [_] args _;rfl
    exact Good.app (xD_ e 6 h4 [] b (by decide) (hs.fst (z_ _ e) hh)) (AT_ h2 h3 h5 (hs.snd (z_ _ e)))
   have n1:¬op=1:=(by omega);simp only [if_neg n1]at hs⊢;have ht:∀s∈thn,∃d,TS d s:=λs hs=>⟨d,h6 s hs⟩;have he:∀s∈els,∃d,TS d s:=λs hs=>⟨d,h7 s hs⟩;rcases h1 with h1|h1;simp only [if_pos h1]at hs⊢;by_cases hn:els=[];simp only [if_pos hn,List.append_assoc,List.singleton_append]at hs⊢;have h8:=hs.fst (z_ _ e) (K1:=[1]) rfl;rw [←h3]at h8;have h9:=hs.snd (z_ _ e);rw [xN_,yv_]at h9;have h10:=h9.fst rfl (X_ thn [] ht);have h11:=h9.snd rfl;have hend:=Ad_ h11;rw [List.length_singleton]at h11 hend;refine Good.app (xD_ e 5 h2 [] b (by decide) h8) ?_;rw [xN_];refine Good.app (Good.one h10 λ_ g1=>y9_ g1 hend) ?_;exact wq_ thn d h6 _ h11;simp only [if_neg hn,List.append_assoc,List.singleton_append,List.cons_append,List.nil_append]at hs⊢;have h8:=hs.fst (z_ _ e) (K1:=[1]) rfl;rw [←h3]at h8;have h9:=hs.snd (z_ _ e);rw [xN_,yv_]at h9;have h10:=h9.fst rfl (K1:=[]) (by rw [List.append_assoc];exact X_ thn _ ht);have h11:=h9.snd rfl;rw [List.length_singleton]at h11;have h12:=h11.fst (D_ thn _) rfl;have h13:=h11.snd (D_ thn _);rw [xN_,yv_]at h13;have h14:=h13.fst rfl (X_ els [] he);have h15:=h13.snd rfl;rw [List.length_singleton]at h15;have h0:=ty0 h15 (X_ els [] he);have hend:=Ad_ h15;refine Good.app (xD_ e 5 h2 [] b (by decide) h8) ?_;rw [xN_];refine Good.app (Good.one h10 λ_ g1=>y9_ g1 h0) ?_;refine Good.app (wq_ thn d h6 _ h12) ?_;rw [xN_];refine Good.app (Good.one h14 λ_ g1=>Ak_ hend) ?_;exact wq_ els d h7 _ h15;have n2:¬op=2:=(by omega);simp only [if_neg n2,if_pos h1,List.append_assoc,List.singleton_append,List.cons_append,List.nil_append]at hs⊢;have h8:=hs.fst (z_ _ e) (K1:=[1]) rfl;have hb:=ty0 h8 (vn_ [] e _);rw [←h3]at h8;have h9:=hs.snd (z_ _ e);rw [xN_,yv_]at h9;have h10:=h9.fst rfl (K1:=[]) (by rw [List.append_assoc];exact X_ thn _ ht);have h11:=h9.snd rfl;rw [List.length_singleton]at h11;have h12:=h11.fst (D_ thn _) rfl;have h13:=h11.snd (D_ thn _);have hend:=Ad_ h13;rw [List.length_singleton]at hend;refine Good.app (xD_ e 5 h2 [] b (by decide) h8) ?_;rw [xN_];refine Good.app (Good.one h10 λ_ g1=>y9_ g1 hend) ?_;refine Good.app (wq_ thn d h6 _ h12) ?_;exact Good.one h13 λ_ g1=>Ak_ hb;have n1:¬op=1:=(by omega);have n2:¬op=2:=(by omega);have n3:¬op=3:=(by omega);simp only [if_neg n1,if_neg n2,if_neg n3]at hs⊢;have hal:args.length<=2:=(by rcases h2 with ⟨_,_,h⟩|⟨_,_,h⟩|⟨_,_,h⟩<;>(have:=congrArg List.length h;simp at this;omega));refine Good.app (xo_ args 5 h3 [] b (by show 0+args.length+10<=40;omega) (hs.fst (K_ _ args) rfl)) ?_;refine Good.one (hs.snd (K_ _ args)) λ_ g1=>?_;refine ⟨[],args.map GX.kd,rfl,?_,by rw [List.length_map];omega,.inr (.inl ⟨g1,.inr (.inr (.inl ⟨rfl,h2,?_⟩))⟩)⟩;rw [List.length_map];rfl;show (args.length:Int)=_;rw [List.length_map]
theorem wq_:∀(x:List GS) (d:Nat),(∀s∈x,TS d s)->∀b:Nat,Seg l T b (h_ b x) (ww_ x) []->Good T b (h_ b x)
 |[],_,_,_,_=>λj i K hi _=>by simp [h_]at hi
 |s::r,d,h,b,hs=>by simp only [h_,ww_]at hs⊢;refine Good.app (BP_ s d (h s List.mem_cons_self) b (hs.fst (xt_ s b) (X_ r [] λt ht=>⟨d,h t (List.mem_cons_of_mem _ ht)⟩))) ?_;exact wq_ r d (λt ht=>h t (List.mem_cons_of_mem _ ht)) _ (hs.snd (xt_ s b))
end
end
def tyP (x:List GS):List (List Int):=ww_ x++[[]]
theorem Ch_ (x:List GS):Seg (qn_ x) (tyP x) 0 (h_ 0 x) (ww_ x) []:=by refine ⟨D_ x 0,λj hj=>?_,λj hj=>?_⟩;rw [Nat.zero_add];exact List.getElem?_append_left hj;rw [Nat.zero_add];rfl
theorem BO_ {x:List GS} {d:Nat} (h:∀s∈x,TS d s):Good (tyP x) 0 (qn_ x):=by
 refine Good.app (wq_ x d h 0 (Ch_ x)) λj i K hi hK=>?_;have e:j=0:=by
  cases j with
  |zero=>rfl
  |succ j=>simp at hi
 subst e;cases hi;rw [Nat.add_zero]at hK⊢;have h0:=Ad_ (Ch_ x);rw [h0]at hK;cases hK;exact ⟨[],[],rfl,rfl,by decide,.inr (.inr (.inr rfl))⟩
theorem yB_ (x:List GS):(tyP x).length=(qn_ x).length:=by unfold tyP qn_;rw [List.length_append,List.length_append,D_ x 0];rfl
theorem CS_ {x:List GS} {d:Nat} (h:∀s∈x,TS d s):(tyP x)[0]? =some []:=X_ x [] λs hs=>⟨d,h s hs⟩
structure MT (l:List GI) (T:List (List Int)) (m:MS) (p:Nat) (i:GI) (K:List Int):Prop where
 pc:m.pc=(p:Int)
 at_:l[p]? =some i
 ty:T[p]? =some K
 st:m.st.map FV.k=K
 tv:∀v∈m.st,TV v
 mem:MemOk m.mem
def MTs (l:List GI) (T:List (List Int)) (m:MS):Prop:=∃p i K,MT l T m p i K
theorem MT.inst {l:List GI} {T:List (List Int)} {m:MS} {p:Nat} {i:GI} {K:List Int} (h:MT l T m p i K):wN_ l m=i:=by unfold wN_;rw [h.pc,Int.toNat_natCast,List.getD_eq_getElem?_getD,h.at_];rfl
theorem wU_ {st:List FV} {K0 ks:List Int} (h:st.map FV.k=K0++ks):(st.take (st.length-ks.length)).map FV.k=K0/\(st.drop (st.length-ks.length)).map FV.k=ks:=by
 have hl:st.length=K0.length+ks.length:=by rw [←List.length_map (f:=FV.k),h,List.length_append]
 rw [List.map_take,List.map_drop,h,hl,Nat.add_sub_cancel];exact ⟨List.take_left,List.drop_left⟩
section
variable {l:List GI} {T:List (List Int)} {m:MS} {mem:List FV}
theorem By_ (hm:MemOk mem) {i:Int} (h1:0<=i) (h2:i<4):TV (cell mem (8+i))/\(cell mem (8+i)).k=2:=by obtain ⟨p,q⟩:=hm.cell (n:=8+i) (by omega) (by omega);refine ⟨p,q.trans ?_⟩;rcases (by omega:i=0\/i=1\/i=2\/i=3)with rfl|rfl|rfl|rfl<;>rfl
theorem yr_ {op kd ad n:Int} {a b:FV} (h3:op≠3) (h17:op≠17):wz_ mem op kd ad n a b=if opE op a.k b=0 then .ok (opV op a.k a b)else .error (opE op a.k b):=by unfold wz_;rw [if_neg h3,if_neg h17]
theorem Ac_ (hm:MemOk mem) {i:GI} {k:Int} {ks:List Int} {inn:List FV} (hk:inn.map FV.k=ks) (hv:∀v∈inn,TV v)
  (h:(i.op=1/\TV (AW_ i)/\i.vk=k)\/(i.op=2/\(i.ad,k)∈u6_)\/(i.op=3/\i.ad=8/\i.n=4/\k=2/\(ks=[2]\/ks=[3]))\/
    (i.op=17/\2<=i.kd/\i.kd<=5/\k=i.kd/\ks=[i.n]/\2<=i.n/\i.n<=5)\/
    (OpK i.op i.kd/\k=(if 9<=i.op/\i.op<=12 then 1 else i.kd)/\(ks=[i.kd]/\(i.op=15\/i.op=16)\/ks=[i.kd,i.kd]/\i.op<=14)))
  {v:FV} (ht:v0_ i mem (inn.headD FV.z) (inn.getLastD FV.z)=.ok v):TV v/\v.k=k:=by
 unfold v0_ at ht;rcases h with ⟨h1,h2,h3⟩|⟨h1,h2⟩|⟨h1,h2,h3,h4,h5⟩|⟨h1,h2,h3,h4,h5,h6⟩|⟨h1,h2,h3⟩;rw [if_pos h1]at ht;cases ht;exact ⟨h2,h3⟩;rw [if_neg (by omega),if_pos h1]at ht;cases ht;obtain ⟨q1,q2,q3⟩:=cells_k _ h2;obtain ⟨p,q⟩:=hm.cell q1 q2;exact ⟨p,q.trans q3⟩;rw [if_neg (by omega),if_neg (by omega)]at ht;unfold wz_ at ht;rw [if_pos h1]at ht;split at ht;cases ht;rename_i hr;cases ht;rw [h2,h4];exact By_ hm (by omega) (by omega);rw [if_neg (by omega),if_neg (by omega)]at ht;unfold wz_ at ht;rw [if_neg (by omega),if_pos h1]at ht;rw [h5]at hk;obtain ⟨a,rfl,ha⟩:=I_ hk;have:=yX_ ⟨h2,h3⟩ (hv a List.mem_cons_self) ht;exact ⟨this.1,this.2.trans h4.symm⟩;have hop:=h1;unfold OpK at hop;rw [if_neg (by omega),if_neg (by omega),yr_ (by omega) (by omega)]at ht;have key:∃a,inn.headD FV.z=a/\a.k=i.kd/\TV a:=(by rcases h3 with ⟨h3,_⟩|⟨h3,_⟩;rw [h3]at hk;obtain ⟨a,rfl,ha⟩:=I_ hk;exact ⟨a,rfl,ha,hv a List.mem_cons_self⟩;rw [h3]at hk;obtain ⟨a,b,rfl,ha,_⟩:=rI_ hk;exact ⟨a,rfl,ha,hv a List.mem_cons_self⟩);obtain ⟨a,ea,hak,hat⟩:=key;rw [ea]at ht;split at ht;cases ht;rw [hak];exact ⟨A0_ h1 hat hak,(B1_ h1).trans h2.symm⟩;cases ht
theorem vW_ {p:Nat} {K:List Int} {st:List FV} (hlen:T.length=l.length) (hp:T[p]? =some K) (hk:st.map FV.k=K) (hv:∀v∈st,TV v) (hm:MemOk mem):MTs l T (goM m (p:Int) st mem):=by
 have hpl:p<l.length:=by rw [←hlen];exact (List.getElem?_eq_some_iff.1 hp).1
 exact ⟨p,l[p],K,rfl,List.getElem?_eq_getElem hpl,hp,hk,hv,hm⟩
theorem D3_ (hm:MemOk mem) {v:FV} (hv:TV v) (hk:v.k=2) {i:Int} (h1:0<=i) (h2:i<4):MemOk (mem.set (8+i).toNat v):=by have hl:=hm.len;refine hm.set (i:=(8+i).toNat) (by omega) hv ?_;rw [hm.kd (by omega),hk];rcases (by omega:i=0\/i=1\/i=2\/i=3)with rfl|rfl|rfl|rfl<;>rfl
theorem D5_ (hm:MemOk mem) {v:FV} (hv:TV v) {a:Int} (h:(a,v.k)∈wrL):MemOk (mem.set a.toNat v):=by obtain ⟨q1,q2,q3⟩:=wr_k _ h;simp only at q1 q2 q3;have hl:=hm.len;refine hm.set (i:=a.toNat) (by omega) hv ?_;rw [hm.kd (by omega)];exact q3.symm
theorem z4_ (hlen:T.length=l.length) (hG:Good T 0 l) (hn: -9223372036854775808<=m.now/\m.now<=9223372036854775807) {p:Nat} {i:GI} {K:List Int} (h:MT l T m p i K):MTs l T (u_ l m):=by
 unfold u_;split;exact ⟨p,i,K,h⟩;rw [h.inst];have hT:=hG p i K h.at_ (by rw [Nat.zero_add];exact h.ty);rw [Nat.zero_add]at hT;obtain ⟨K0,ks,rfl,hks,hK40,hT⟩:=hT;rw [←hks];obtain ⟨s1,s2⟩:=wU_ h.st;have v1:∀v∈m.st.take (m.st.length-ks.length),TV v:=λv hv=>h.tv v (List.mem_of_mem_take hv);have v2:∀v∈m.st.drop (m.st.length-ks.length),TV v:=λv hv=>h.tv v (List.mem_of_mem_drop hv);have hpc:m.pc+1=((p+1:Nat):Int):=by rw [h.pc];rfl
 have hbad:∀e,MTs l T (vN_ m e):=λe=>⟨p,i,_,h.pc,h.at_,h.ty,h.st,h.tv,h.mem⟩;have hmem:=h.mem;generalize m.st.take (m.st.length-ks.length)=rest at*;generalize m.st.drop (m.st.length-ks.length)=inn at*;unfold doI;rcases hT with ⟨k,hk,hT⟩|⟨hk,hT⟩|⟨h20,q,hq,hT⟩|h23;have h17:i.op<=17:=(by rcases hT with ⟨q,_⟩|⟨q,_⟩|⟨q,_⟩|⟨q,_⟩|⟨q,_⟩;omega;omega;omega;omega;unfold OpK at q;omega);rw [if_pos h17];split;exact hbad _;rename_i v hv;obtain ⟨t1,t2⟩:=Ac_ h.mem s2 v2 hT hv;rw [hpc];refine vW_ hlen hk (by rw [List.map_append,s1,List.map_singleton,t2]) (λu hu=>?_) h.mem;rcases List.mem_append.1 hu with hu|hu;exact v1 u hu;rw [List.mem_singleton.1 hu];exact t1
 .rcases hT with ⟨h1,k,h2,h3⟩|⟨h1,h2,h3,h4⟩|⟨h1,h2,h3⟩|⟨h1,h2,q,h3,h4⟩;rw [if_neg (by omega),if_pos h1,hpc];rw [h2]at s2;obtain ⟨a,rfl,ha⟩:=I_ s2;exact vW_ hlen hk s1 v1 (D5_ h.mem (v2 a List.mem_cons_self) (by rw [ha];exact h3))
  .rw [if_neg (by omega),if_neg (by omega),if_pos h1,hpc];split;exact hbad _
   .rename_i hr;have:∃a b,inn=[a,b]/\a.k=2:=by rcases h4 with rfl|rfl;obtain ⟨a,b,e,ha,_⟩:=rI_ s2;exact ⟨a,b,e,ha⟩;obtain ⟨a,b,e,ha,_⟩:=rI_ s2;exact ⟨a,b,e,ha⟩
    obtain ⟨a,b,rfl,ha⟩:=this;have hr:¬(b.i<0\/i.n<=b.i):=hr;rw [h2];exact vW_ hlen hk s1 v1 (D3_ h.mem (v2 a List.mem_cons_self) ha (i:=b.i) (by omega) (by omega))
  .rw [if_neg (by omega),if_neg (by omega),if_neg (by omega),if_neg (by omega),if_neg (by omega),if_pos h1,hpc];have hv:(inn.tail.headD FV.z).i<=9223372036854775807:=by
    match inn,v2 with
    |[],_=>show (0:Int)<=_;omega
    |[a],_=>show (0:Int)<=_;omega
    |a::b::r,v2=>exact ((v2 b (List.mem_cons_of_mem _ List.mem_cons_self)).1.i64).2
   exact vW_ hlen hk s1 v1 (w8_ h2 h.mem _ hv hn).1
  rw [if_neg (by omega),if_neg (by omega),if_neg (by omega),if_neg (by omega),if_pos h1,hpc];split;rw [h3];exact vW_ hlen h4 s1 v1 h.mem;exact vW_ hlen hk s1 v1 h.mem
 rw [if_neg (by omega),if_neg (by omega),if_neg (by omega),if_pos h20,hq];exact vW_ hlen hT s1 v1 h.mem
 .rw [if_neg (by omega),if_neg (by omega),if_neg (by omega),if_neg (by omega),if_neg (by omega),if_neg (by omega)];have h0:ks=[]:=by have:f_ i=0:=(by unfold f_;rw [if_pos (by omega)]);rw [this]at hks;exact List.length_eq_zero_iff.1 hks
  subst h0;rw [List.append_nil]at h;exact ⟨p,i,K0,h.pc,h.at_,h.ty,s1,v1,h.mem⟩
end
def itI (l:List GI):Nat->MS->MS
 |0,m=>m
 |n+1,m=>itI l n (u_ l m)
theorem yi_ (l:List GI):∀(a b:Nat) (m:MS),itI l (a+b) m=itI l b (itI l a m)
 |0,b,m=>by rw [Nat.zero_add];rfl
 |a+1,b,m=>by rw [Nat.add_right_comm];exact yi_ l a b (u_ l m)
theorem y8_ (l:List GI) (a:Nat) (m:MS):itI l (a+1) m=u_ l (itI l a m):=yi_ l a 1 m
def vP_ (m:MS):Prop:=m.over=true\/m.err≠0
instance (m:MS):Decidable (vP_ m):=by unfold vP_;exact inferInstance
theorem uP_ {l:List GI} {m:MS} (h:vP_ m):u_ l m=m:=by unfold u_;rw [if_pos (show m.over=true\/m.err≠0 from h)]
theorem xc_ {l:List GI} {m:MS} (h:vP_ m):∀n,itI l n m=m
 |0=>rfl
 |n+1=>by show itI l n (u_ l m)=m;rw [uP_ h];exact xc_ h n
theorem wM_ (i:GI) (m:MS) (r n:List FV):(doI i m r n).used=m.used+1/\(doI i m r n).now=m.now:=by
 unfold doI;repeat' split
 all_goals exact ⟨rfl,rfl⟩
theorem yP_ {l:List GI} {m:MS} (h:¬vP_ m):(u_ l m).used=m.used+1:=by unfold u_;rw [if_neg (show ¬(m.over=true\/m.err≠0) from h)];exact (wM_ ..).1
theorem xO_ {l:List GI} {m:MS}:(u_ l m).now=m.now:=by unfold u_;split;rfl;exact (wM_ ..).2
theorem y7_ {l:List GI} {T:List (List Int)} (hlen:T.length=l.length) (hG:Good T 0 l):∀(n:Nat) (m:MS),(-9223372036854775808<=m.now/\m.now<=9223372036854775807)->MTs l T m->MTs l T (itI l n m)
 |0,m,_,h=>h
 |n+1,m,hn,h=>by obtain ⟨p,i,K,h⟩:=h;exact y7_ hlen hG n (u_ l m) (by rw [xO_];exact hn) (z4_ hlen hG hn h)
theorem xG_ {l:List GI}:∀(n:Nat) (m:MS),m.used<=(itI l n m).used/\(itI l n m).used<=m.used+n/\(¬vP_ (itI l n m)->(itI l n m).used=m.used+n)
 |0,m=>⟨Int.le_refl _,by simp [itI],λ_=>by simp [itI]⟩
 |n+1,m=>by have ih:=xG_ (l:=l) n (u_ l m);show m.used<=(itI l n (u_ l m)).used/\(itI l n (u_ l m)).used<=m.used+((n+1:Nat):Int)/\(¬vP_ (itI l n (u_ l m))->(itI l n (u_ l m)).used=m.used+((n+1:Nat):Int));by_cases h:vP_ m;rw [uP_ h]at ih⊢;rw [xc_ h]at ih⊢;exact ⟨Int.le_refl _,by omega,λh2=>absurd h h2⟩;have hu:=yP_ (l:=l) h;rw [hu]at ih;exact ⟨by omega,by omega,λh2=>by have:=ih.2.2 h2;omega⟩
def ft41:FT:=⟨0,⟨[(0,.slx 0 0 0)],[],0,1,[],[],[]⟩,[(false,⟨[(0,.slx 0 3 0)],[],1,1,[⟨0,3,0,0,none⟩],[],[]⟩)]⟩
def A2_:Nat->List AV
 |0=>[]
 |n+1=>.opq::A2_ n
def Ba_ (a b:AV):List AV:=[.slx 0 0 0,a,b,.slx 3 0 0,.slx 4 0 0,.slx 5 0 0,.slx 6 0 0]
def ftK (sl:List (Nat×AV)) (nv:Nat) (exs:List (Bool×Nat×AV)):FT:=⟨2,⟨(0,.ptr 0 0)::sl,[(0,Ba_ (.slx 2 3 1) (.slx 1 3 2))],3,nv+7,[⟨2,3,1,0,some 1⟩,⟨1,3,2,0,some 2⟩],[],[]⟩,
 exs.map λ(b,n,a)=>match b with
  |true=>(true,⟨[(0,a)],[(0,A2_ 7)],2,n,[],[],[(1,66)]⟩)
  |false=>(false,⟨[(0,a)],[(0,[.slx 0 0 0,.slx 2 3 1,.ptx 1 66 3 0,.slx 2 0 0,.slx 3 0 0,.slx 4 0 0,.slx 5 0 0])],3,n,[⟨2,3,1,0,some 1⟩],[],[(1,66)]⟩)⟩
def ftL (sl:List (Nat×AV)) (nv:Nat) (exs:List (Bool×Nat×AV)):FT:=⟨1,⟨(0,.ptr 0 0)::sl,[(0,Ba_ (.slx 1 3 1) (.slx 2 3 2))],3,nv+7,[⟨1,3,1,0,some 1⟩,⟨2,3,2,0,some 2⟩],[],[]⟩,
 exs.map λ(b,n,a)=>match b with
  |true=>(true,⟨[(0,a)],[(0,A2_ 7)],1,n,[],[],[]⟩)
  |false=>(false,⟨[(0,a)],[(0,Ba_ (.slx 1 3 1) (.slx 2 3 2))],3,n,[⟨1,3,1,0,some 1⟩,⟨2,3,2,0,some 2⟩],[],[]⟩)⟩
def pan156:Bool×Nat×AV:=(true,1,.iface 156 (.agg [.slx 0 0 0]))
def nm_:FT:=ftK [] 0 [(false,9,.agg (hs 6 3))]
def E_:FT:=ftK [(1,.agg (hs 7 3))] 3 [(false,6,.tup [])]
def zQ_:FT:=ftK [(1,.agg (hs 7 7))] 7 [(false,7,.slx 6 0 0),pan156]
def yE_:FT:=ftK [(1,.agg (hs 7 7))] 7 [(false,6,.tup []),pan156]
def AN_:FT:=yE_
def w1_:FT:=ftL [(1,.agg (hs 7 7))] 7 [(false,7,.tup [])]
def AL_:FT:=ftL [(1,.agg (hs 7 7))] 7 [(false,8,.slx 7 0 0),pan156]
def ft129:FT:=⟨0,⟨[(0,.slx 0 0 0)],[],0,1,[],[],[]⟩,[(false,⟨[(0,.tup [])],[],0,0,[],[],[]⟩),(true,⟨[(0,.iface 156 (.agg [.slx 0 0 0]))],[],0,1,[],[],[]⟩)]⟩
def xn_ (kd ad:Int):List AV:=[.ptr 0 0,.agg [.sym 71,.int .i64 kd,.int .i64 ad,.sym 74,.sym 75,.sym 76,.sym 77]]
def heap95:AHeap:=w1_.ent.heap 64
def ft33:FT:=⟨0,⟨[(0,.slx 0 0 0),(1,.agg (hs 1 7))],[],0,8,[],[],[]⟩,[(false,⟨[(0,.agg (hs 0 7))],[],0,7,[],[],[]⟩)]⟩
def AK_:FT:=ft33
def c41:VC:=⟨⟨[],[]⟩,[],[],0,true,[]⟩
def t41:VT:=It Zx [64,.nsl] 65 (Dn [.nsl])<|Li Qg [.vsl 0 3 [],64] 66<|Dn [66]
def c94:VC:=⟨⟨[],[]⟩,[],[],2,true,[]⟩
def t94:VT:=Li Qp [65] 71<|Li Qh [71,J 1] 72<|Li Q1 [65,72] 73<|.lt Q9 [65,73] 74 (some 3)<|Li .tkx [65,65,72] 77<|Dn [64,77,67,68,69,70,74,75,76]
def c92:VC:=⟨⟨[],[]⟩,[],[],2,true,[]⟩
def t92:VT:=Li Qg [65,.agg [71,72,73]] 74<|Dn [64,74,67,68,69,70]
def c93:VC:=⟨⟨[],[]⟩,[],[],2,true,[(94,nm_),(129,ft129)]⟩
def t93:VT:=Cf 94 nm_ [64,65,66,67,68,69,70] 78 9<|It Z2 [92,J 0] 94 (.callF 129 ft129 [J 6] 95 (.cons 0 (Li Qv [73,92] 96<|Dn [85,86,87,88,89,90,96]) (.cons 1 (.done (.tup [J 1,96])) .nil)))<|It Qo [92,74] 95 (.callF 129 ft129 [J 6] 96 (.cons 0 (Li Qv [73,92] 97<|Dn [85,86,87,88,89,90,97]) (.cons 1 (.done (.tup [J 1,97])) .nil)))<|Li Qv [73,92] 96<|Dn [85,86,87,88,89,90,96]
def Db_:VC:=⟨⟨[],[]⟩,[],[],0,true,[]⟩
def Cr_:VT:=It Q5 [64,J 0] 65 (.done (.tup [J 1,64]))<|Dn []
def Dc_:VC:=⟨⟨[],[]⟩,[],[],0,true,[]⟩
def Cs_:VT:=.ite 64 (.done (.agg [J 1,J 1,.flt .f64 0]))<|.done (.agg [J 1,J 0,.flt .f64 0])
def c97:VC:=⟨⟨[],[]⟩,[(131,[(some 3)]),(124,[none,none,none]),(123,[none]),(126,[none,none])],[],2,true,[(92,E_),(94,nm_),(129,ft129)]⟩
def t97:VT:=Cf 94 nm_ [64,65,66,67,68,69,70] 78 9<|It Q6 [71,J 15] 94 (It Q6 [71,J 16] 95 (Cf 94 nm_ [85,86,66,87,88,89,90] 96 9<|It Z1 [71,J 9] 112 (Li Qw [71,J 12] 113<|Iq 72 5 114 (.call 124 [71,111,93] 115 [none,none,none]<|It Q3 [117] 118 (.callF 129 ft129 [J 4] 119 (.cons 0 (Dn [103,104,105,106,107,108]) (.cons 1 (.done (.tup [J 1,120])) .nil)))<|.ite 113 (.call 131 [116] 119 [(some 3)]<|Cf 92 E_ [103,104,66,105,106,107,108,119,120,121] 122 6<|Dn [132,133,134,135,136,137])<|Cf 92 E_ [103,104,66,105,106,107,108,J 5,J 0,115] 119 6<|Dn [129,130,131,132,133,134])<|.call 123 [72,110] 115 [none]<|.call 123 [72,92] 116 [none]<|.call 126 [71,72,115,116] 117 [none,none]<|.callF 129 ft129 [118] 119 (.cons 0 (.ite 113 (Li Q8 [117,J 0] 120<|.call 131 [120] 121 [(some 3)]<|Cf 92 E_ [103,104,66,105,106,107,108,121,122,123] 124 6<|Dn [134,135,136,137,138,139])<|Cf 92 E_ [103,104,66,105,106,107,108,72,117,.flt .f64 0] 120 6<|Dn [130,131,132,133,134,135]) (.cons 1 (.done (.tup [J 1,120])) .nil)))<|Iq 72 5 113 (.call 124 [71,111,93] 114 [none,none,none]<|It Q3 [116] 117 (.callF 129 ft129 [J 4] 118 (.cons 0 (Dn [103,104,105,106,107,108]) (.cons 1 (.done (.tup [J 1,119])) .nil)))<|Cf 92 E_ [103,104,66,105,106,107,108,J 5,J 0,114] 118 6<|Dn [128,129,130,131,132,133])<|.call 123 [72,110] 114 [none]<|.call 123 [72,92] 115 [none]<|.call 126 [71,72,114,115] 116 [none,none]<|.callF 129 ft129 [117] 118 (.cons 0 (Cf 92 E_ [103,104,66,105,106,107,108,72,116,.flt .f64 0] 119 6<|Dn [129,130,131,132,133,134]) (.cons 1 (.done (.tup [J 1,119])) .nil)))<|It Z1 [71,J 9] 96 (Li Qw [71,J 12] 97<|Iq 72 5 98 (.call 124 [71,93,93] 99 [none,none,none]<|It Q3 [101] 102 (.callF 129 ft129 [J 4] 103 (.cons 0 (Dn [85,86,87,88,89,90]) (.cons 1 (.done (.tup [J 1,104])) .nil)))<|.ite 97 (.call 131 [100] 103 [(some 3)]<|Cf 92 E_ [85,86,66,87,88,89,90,103,104,105] 106 6<|Dn [116,117,118,119,120,121])<|Cf 92 E_ [85,86,66,87,88,89,90,J 5,J 0,99] 103 6<|Dn [113,114,115,116,117,118])<|.call 123 [72,92] 99 [none]<|.call 123 [72,92] 100 [none]<|.call 126 [71,72,99,100] 101 [none,none]<|.callF 129 ft129 [102] 103 (.cons 0 (.ite 97 (Li Q8 [101,J 0] 104<|.call 131 [104] 105 [(some 3)]<|Cf 92 E_ [85,86,66,87,88,89,90,105,106,107] 108 6<|Dn [118,119,120,121,122,123])<|Cf 92 E_ [85,86,66,87,88,89,90,72,101,.flt .f64 0] 104 6<|Dn [114,115,116,117,118,119]) (.cons 1 (.done (.tup [J 1,104])) .nil)))<|Iq 72 5 97 (.call 124 [71,93,93] 98 [none,none,none]<|It Q3 [100] 101 (.callF 129 ft129 [J 4] 102 (.cons 0 (Dn [85,86,87,88,89,90]) (.cons 1 (.done (.tup [J 1,103])) .nil)))<|Cf 92 E_ [85,86,66,87,88,89,90,J 5,J 0,98] 102 6<|Dn [112,113,114,115,116,117])<|.call 123 [72,92] 98 [none]<|.call 123 [72,92] 99 [none]<|.call 126 [71,72,98,99] 100 [none,none]<|.callF 129 ft129 [101] 102 (.cons 0 (Cf 92 E_ [85,86,66,87,88,89,90,72,100,.flt .f64 0] 103 6<|Dn [113,114,115,116,117,118]) (.cons 1 (.done (.tup [J 1,103])) .nil)))<|It Z1 [71,J 9] 95 (Li Qw [71,J 12] 96<|Iq 72 5 97 (.call 124 [71,93,93] 98 [none,none,none]<|It Q3 [100] 101 (.callF 129 ft129 [J 4] 102 (.cons 0 (Dn [85,86,87,88,89,90]) (.cons 1 (.done (.tup [J 1,103])) .nil)))<|.ite 96 (.call 131 [99] 102 [(some 3)]<|Cf 92 E_ [85,86,66,87,88,89,90,102,103,104] 105 6<|Dn [115,116,117,118,119,120])<|Cf 92 E_ [85,86,66,87,88,89,90,J 5,J 0,98] 102 6<|Dn [112,113,114,115,116,117])<|.call 123 [72,92] 98 [none]<|.call 123 [72,92] 99 [none]<|.call 126 [71,72,98,99] 100 [none,none]<|.callF 129 ft129 [101] 102 (.cons 0 (.ite 96 (Li Q8 [100,J 0] 103<|.call 131 [103] 104 [(some 3)]<|Cf 92 E_ [85,86,66,87,88,89,90,104,105,106] 107 6<|Dn [117,118,119,120,121,122])<|Cf 92 E_ [85,86,66,87,88,89,90,72,100,.flt .f64 0] 103 6<|Dn [113,114,115,116,117,118]) (.cons 1 (.done (.tup [J 1,103])) .nil)))<|Iq 72 5 96 (.call 124 [71,93,93] 97 [none,none,none]<|It Q3 [99] 100 (.callF 129 ft129 [J 4] 101 (.cons 0 (Dn [85,86,87,88,89,90]) (.cons 1 (.done (.tup [J 1,102])) .nil)))<|Cf 92 E_ [85,86,66,87,88,89,90,J 5,J 0,97] 101 6<|Dn [111,112,113,114,115,116])<|.call 123 [72,92] 97 [none]<|.call 123 [72,92] 98 [none]<|.call 126 [71,72,97,98] 99 [none,none]<|.callF 129 ft129 [100] 101 (.cons 0 (Cf 92 E_ [85,86,66,87,88,89,90,72,99,.flt .f64 0] 102 6<|Dn [112,113,114,115,116,117]) (.cons 1 (.done (.tup [J 1,102])) .nil))
def c96:VC:=⟨⟨[],[]⟩,[(122,[none,none]),(123,[none])],[],2,true,[(92,E_),(94,nm_),(129,ft129)]⟩
def t96:VT:=Cf 94 nm_ [64,65,66,67,68,69,70] 78 9<|Iq 72 5 94 (Iq 74 5 95 (Cf 92 E_ [85,86,66,87,88,89,90,J 5,J 0,93] 96 6<|Dn [106,107,108,109,110,111])<|Iq 72 5 96 (Li Zg [92] 97<|Cf 92 E_ [85,86,66,87,88,89,90,J 5,J 0,97] 98 6<|Dn [108,109,110,111,112,113])<|Iq 74 5 97 (.call 122 [72,93] 98 [none,none]<|.callF 129 ft129 [99] 100 (.cons 0 (Cf 92 E_ [85,86,66,87,88,89,90,72,98,.flt .f64 0] 101 6<|Dn [111,112,113,114,115,116]) (.cons 1 (.done (.tup [J 1,101])) .nil)))<|.call 123 [72,92] 98 [none]<|Cf 92 E_ [85,86,66,87,88,89,90,72,98,.flt .f64 0] 99 6<|Dn [109,110,111,112,113,114])<|Iq 72 5 95 (Li Zg [92] 96<|Cf 92 E_ [85,86,66,87,88,89,90,J 5,J 0,96] 97 6<|Dn [107,108,109,110,111,112])<|Iq 74 5 96 (.call 122 [72,93] 97 [none,none]<|.callF 129 ft129 [98] 99 (.cons 0 (Cf 92 E_ [85,86,66,87,88,89,90,72,97,.flt .f64 0] 100 6<|Dn [110,111,112,113,114,115]) (.cons 1 (.done (.tup [J 1,100])) .nil)))<|.call 123 [72,92] 97 [none]<|Cf 92 E_ [85,86,66,87,88,89,90,72,97,.flt .f64 0] 98 6<|Dn [108,109,110,111,112,113]
def KR (m:MS) (s:AV):List AV:=[.int .i64 m.pc,s,c_ m.mem,.int .i64 m.used,.int .i64 m.now,.bool m.over,.int .i64 m.err]
def KS (m:MS) (s:AV):List AV:=[.int .i64 m.pc,s,.int .i64 m.used,.int .i64 m.now,.bool m.over,.int .i64 m.err]
theorem x1_ (m:MS) {s:AV} (hs:okC s=true) {l:List AV} (hl:okL l=true):okL (KR m s++l)=true:=kS_.okL_join (by simp only [KR,okL,okC,aM_,hs]) hl
theorem C_ (m:MS) {s:AV} (hs:okC s=true):okL (KR m s)=true:=by simp only [KR,okL,okC,aM_,hs]
theorem BV_ (m:MS) {s:AV} (hs:okC s=true) {l:List AV} (hl:okL l=true):okL (KS m s++l)=true:=kS_.okL_join (by simp only [KS,okL,okC,hs]) hl
theorem Ap_ (m:MS) {s:AV} (hs:okC s=true):okL (KS m s)=true:=by simp only [KS,okL,okC,hs]
abbrev St (l:List FV) (s:AV):Prop:=SlV d_ 3 l s
theorem St.okC {l:List FV} {s:AV} (h:St l s):okC s=true:=SlV.ok h okV
theorem yD_ (l:List FV) (i:Nat):a2_ (Nat.mul (l.take i).length 3) (aR_ d_ l)=some (aR_ d_ (l.take i)):=by have h:=cC_ (aR_ d_ (l.take i)) (aR_ d_ (l.drop i));rw [←cz_,List.take_append_drop,aG_ us_]at h;exact h
theorem zv_ (l:List FV) {i:Nat} (hi:i<=l.length) (hne:l≠[]):(XOp.tkx).run Tryz.prog [c_ l,c_ l,.int .i64 (i:Int)]=some (dZ_ d_ 3 (l.take i)):=by
 have ht:=yD_ l i;have hlen:(l.take i).length=i:=by rw [List.length_take];omega
 rw [hlen]at ht;cases l with
 |nil=>exact absurd rfl hne
 |cons a r=>
  have hb:(Nat.beq 3 3&&(Nat.ble i (r.length+1)&&Nat.ble i (r.length+1)))=true:=(by have:i<=r.length+1:=hi;simp [this]);show (match Nat.beq 3 3&&(Nat.ble i (r.length+1)&&Nat.ble i (r.length+1))with
   |true=>match a2_ (Nat.mul i 3) (aR_ d_ (a::r))with
    |some cs'=>some (AV.vsl i 3 cs')
    |none=>none
   |false=>none)=_
  rw [hb];simp only [ht];unfold dZ_;rw [hlen]
def R94 (m:MS) (st:List FV) (v:FV):Nat->List AV->Prop:=λ_ ws=>∃s,St st s/\ws=KS m s++d_ v
theorem p94 {m:MS} {s:AV} {st:List FV} {v:FV} (hs:St (st++[v]) s) (hl:st.length<=100):CF Tryz.prog 94 nm_ (KR m s) (R94 m st v):=by
 have e:s=c_ (st++[v]):=SlV.eq hs (by simp);subst e;have hlen:(st++[v]).length=st.length+1:=by simp
 have hi:st.length<(st++[v]).length:=by omega
 have hv:(st++[v])[st.length]=v:=by simp
 have htk:=zv_ (st++[v]) (i:=st.length) (by omega) (by simp);rw [List.take_left]at htk;have hld:=rp_ (st++[v]) hi;rw [hv]at hld;refine vh_ (c:=c94) (n:=300) (t:=t94) mo ov rfl (λY _=>vC_ _) (by kernel_rfl) λY hf hg=>?_;unfold t94;refine vv_ (uy_ (st++[v])) rfl (vv_ (G_ (z:=(st.length:Int)) (by rw [hlen];omega) (by omega) (by omega)) rfl ?_);refine vv_ (s_ (st++[v]) hi) rfl (vf_ hld rfl (okV v) (vv_ htk (sc_ okV st) ?_));exact VOK_fin (show okL (KS m (dZ_ d_ 3 st)++d_ v)=true from BV_ m (sc_ okV st) (okV v)) ⟨dZ_ d_ 3 st,.inl rfl,rfl⟩
def R92 (m:MS) (st:List FV):Nat->List AV->Prop:=λ_ ws=>∃s,St st s/\ws=KS m s
theorem p92 {m:MS} {s:AV} {st:List FV} {v:FV} (hs:St st s) (hl:st.length<=100):CF Tryz.prog 92 E_ (KR m s++d_ v) (R92 m (st++[v])):=by obtain ⟨r,h1,h2⟩:=SlV.app1 (P:=Tryz.prog) (bytes:=24) us_ (by decide) (by decide) hs v (by omega);refine vh_ (c:=c92) (n:=300) (t:=t92) mo ov rfl (λY _=>vC_ _) (by kernel_rfl) λY hf hg=>?_;unfold t92;exact vv_ h1 (St.okC h2) (VOK_fin (show okL (KS m r)=true from Ap_ m (St.okC h2)) ⟨r,h2,rfl⟩)
theorem xr_ (e:Int):CF Tryz.prog 129 ft129 [.int .i64 e] (RE0 e):=by
 refine vh_ (c:=Db_) (n:=300) (t:=Cr_) mo ov rfl (λY _=>vC_ _) (by kernel_rfl) λY hf hg=>?_;unfold Cr_
 (refine a_ rfl rfl ?_ ?_<;>intro h<;>simp only [nc]at h<;>try omega)
 exact VOK_fin rfl (.inr ⟨rfl,h,rfl⟩);exact VOK_fin rfl (.inl ⟨rfl,h,rfl⟩)
theorem yL_ (b:Bool):kH_ Tryz.prog 131 [.bool b] (.agg (d_ ⟨1,tI b,some 0⟩)):=by refine t6_ (sh:=[none]) (ls:=[.bool b]) (c:=Dc_) (n:=300) (t:=Cs_) mo ov rfl rfl rfl (λY _=>vC_ _) rfl (by kernel_rfl) λY hf hg=>?_;unfold Cs_;cases b;exact ve_ (t:=false) rfl (λh=>by cases h) (λh=>uH_ rfl);exact ve_ (t:=true) rfl (λh=>uH_ rfl) (λh=>by cases h)
def R93 (m:MS) (st:List FV) (x:FV) (i:GI):Nat->List AV->Prop:=λj ws=>
 ((x.i<0\/i.n<=x.i)/\j=1/\ws=[.int .i64 6])\/(¬(x.i<0\/i.n<=x.i)/\j=0/\∃s,St st s/\ws=KS m s++[.int .i64 (i.ad+x.i)])
theorem p93 {m:MS} {s:AV} {st:List FV} {x:FV} {i:GI} (hs:St (st++[x]) s) (hl:st.length<=100) (ha:i.ad=8) (hn:i.n=4):CF Tryz.prog 93 zQ_ (KR m s++tS_ i) (R93 m st x i):=by
 obtain ⟨op,kd,ad,n,vk,vi,vf⟩:=i;simp only at ha hn;subst ha hn;refine vh_ (c:=c93) (n:=300) (t:=t93) mo ov rfl (λY _=>vC_ _) (by kernel_rfl) λY hf hg=>?_;unfold t93;refine uv_ (p94 (m:=m) hs hl) (show okL (KR m s)=true from C_ m (St.okC hs)) ⟨?_,trivial⟩;rintro ws ⟨s1,hs1,rfl⟩
 (refine a_ rfl rfl ?_ ?_<;>intro h<;>simp only [nc]at h<;>try omega)
 refine uv_ (xr_ 6) rfl ⟨?_,?_,trivial⟩;rintro ws (⟨_,h0,_⟩|⟨h0,_⟩);cases h0;cases h0;rintro ws (⟨h0,_⟩|⟨_,_,rfl⟩);cases h0;exact VOK_fin rfl (.inl ⟨.inl h,rfl,rfl⟩);have h1:=h
 (refine a_ rfl rfl ?_ ?_<;>intro h<;>simp only [nc]at h<;>try omega)
 refine uv_ (xr_ 6) rfl ⟨?_,?_,trivial⟩;rintro ws (⟨_,h0,_⟩|⟨h0,_⟩);cases h0;cases h0;rintro ws (⟨h0,_⟩|⟨_,_,rfl⟩);cases h0;exact VOK_fin rfl (.inl ⟨.inr h,rfl,rfl⟩);exact vv_ (g_ (x:=8) (y:=x.i) (by omega) (by omega)) rfl (VOK_fin (show okL (KS m s1++[.int .i64 (8+x.i)])=true from BV_ m (St.okC hs1) rfl) (.inr ⟨by show ¬(x.i<0\/4<=x.i);omega,rfl,s1,hs1,rfl⟩))
def R97 (m:MS) (st:List FV) (r:Except Int FV):Nat->List AV->Prop:=λj ws=>(∃v s,r=.ok v/\j=0/\St (st++[v]) s/\ws=KS m s)\/(∃e,r=.error e/\j=1/\ws=[.int .i64 e])
theorem r_ {m:MS} {s:AV} {st:List FV} {v:FV} {r:Except Int FV} (hs:St st s) (hl:st.length<=100) (hr:r=.ok v) {Y:Sy} {L:List (Nat->List AV->Prop)} {hv hw:List AV} {n:Nat} (h:ab_ Y.v hv=KR m s++d_ v)
  (hw':∀s',St (st++[v]) s'->ab_ ((Y.puts n (KR m s++d_ v)).puts (n+10) (KS m s')).v hw=KS m s'):VOK Tryz.prog (QF (R97 m st r)) L Y (.callF 92 E_ hv n (.cons 6 (.done (.tup (.int .i64 0::hw))) .nil)):=by
 have hp:=p92 (m:=m) (v:=v) hs hl;rw [←h]at hp;refine uv_ hp (by rw [h];exact x1_ m (St.okC hs) (okV v)) ⟨?_,trivial⟩;rintro ws ⟨s1,hs1,rfl⟩;rw [h];have e:=hw' s1 hs1;refine VOK_fin (j:=0) ?_ ?_;show okL (ab_ ((Y.puts n (KR m s++d_ v)).puts (n+10) (KS m s1)).v hw)=true;rw [e];exact Ap_ m (St.okC hs1);show R97 m st r 0 (ab_ ((Y.puts n (KR m s++d_ v)).puts (n+10) (KS m s1)).v hw);rw [e];exact .inl ⟨v,s1,hr,rfl,hs1,rfl⟩
theorem DX_ {m:MS} {s:AV} {st:List FV} {a b:FV} {i:GI} (hs:St (st++[a,b]) s) (hl:st.length<=90) (ho:OpK i.op i.kd) (h14:i.op<=14) (ta:TV a) (tb:TV b) (hka:a.k=i.kd) (hkb:b.k=i.kd):
  CF Tryz.prog 97 yE_ (KR m s++tS_ i) (R97 m st (opX i.op a b)):=by
 obtain ⟨op,kd,ad,n,vk,vi,vf⟩:=i;simp only at ho h14 hka hkb;have hs':St ((st++[a])++[b]) s:=by rw [List.append_assoc];exact hs
 have hl1:st.length<=100:=by omega
 refine vh_ (c:=c97) (n:=300) (t:=t97) mo ov rfl (λY _=>vC_ _) (by kernel_rfl) λY hf hg=>?_;unfold t97;refine uv_ (p94 (m:=m) hs' (by simp;omega)) (show okL (KR m s)=true from C_ m (St.okC hs)) ⟨?_,trivial⟩;rintro ws ⟨s0,hs0,rfl⟩
 (refine a_ rfl rfl ?_ ?_<;>intro h<;>simp only [nc]at h<;>try omega)
 (refine a_ rfl rfl ?_ ?_<;>intro h<;>simp only [nc]at h<;>try omega)
 refine uv_ (p94 (m:=m) hs0 hl1) (show okL (KR m s0)=true from C_ m (St.okC hs0)) ⟨?_,trivial⟩;rintro ws ⟨s1,hs1,rfl⟩;show VOK Tryz.prog (QF (R97 m st (opX op a b))) _ _ _;clear hs hs'
 (
  by_cases h5:kd=5
  .have hr:=v7_ (h5▸ho);have hw:opX op a b=.ok (wb_ op a.f (b).f):=(by unfold opX opE opV;rw [hka,if_pos h5,if_pos rfl,if_pos h5]);rw [wI_ hr]at hw
   (refine a_ rfl rfl ?_ ?_<;>intro h<;>simp only [nc]at h<;>try omega)
   .refine vv_ (run_leq ..) rfl ?_
    (refine a_ rfl rfl ?_ ?_<;>intro h<;>simp only [nc]at h<;>try omega)
    refine uG_ (yK_ op a.f (b).f hr) rfl (by simp only [okL,okC,vM_]) (vv_ rfl rfl (ve_ (t:=false) rfl (λh=>by cases h) (λ_=>ve_ rfl (λh12=>?_) (λh12=>?_))));have h12:op<=12:=of_decide_eq_true h12;rw [if_pos (by omega)]at hw;exact uG_ (yL_ _) rfl rfl (r_ (v:=⟨1,tI (xe_ op a.f (b).f),some 0⟩) hs1 hl1 hw rfl (λs' _=>rfl));have h12:¬op<=12:=of_decide_eq_false h12;rw [if_neg (by omega)]at hw;exact r_ (v:=⟨5,0,wa_ op a.f (b).f⟩) hs1 hl1 hw rfl (λs' _=>rfl)
   .rw [if_neg (by omega)]at hw
    (refine a_ rfl rfl ?_ ?_<;>intro h<;>simp only [nc]at h<;>try omega)
    exact uG_ (yK_ op a.f (b).f hr) rfl (by simp only [okL,okC,vM_]) (vv_ rfl rfl (ve_ (t:=false) rfl (λh=>by cases h) (λ_=>r_ (v:=⟨5,0,wa_ op a.f (b).f⟩) hs1 hl1 hw rfl (λs' _=>rfl))))
  .have wa:=S_ (hka▸ta.1) h5;have wb:=S_ (hkb▸tb.1) h5;have p1:=w6_ kd a.i;have p2:=w6_ kd (b).i;rw [wa]at p1;rw [wb]at p2;have p3:=A3_ op kd a.i (b).i ho h5;have he:opE op kd b=F_ op (b).i:=(by unfold opE;rw [if_neg h5]);have hi0:F_ op (b).i=0->k_ op kd a.i (b).i=Z_ op kd a.i (b).i:=λh0=>(by unfold k_;rw [if_pos h0]);have hw:F_ op (b).i=0->opX op a b=.ok ⟨if 9<=op/\op<=12 then 1 else kd,k_ op kd a.i (b).i,some 0⟩:=λh0=>(by unfold opX opV;rw [hka,he,if_pos h0,if_neg h5,hi0 h0]);have hx:F_ op (b).i≠0->opX op a b=.error (F_ op (b).i):=λh0=>by unfold opX;rw [hka,he,if_neg h0]
   (refine a_ rfl rfl ?_ ?_<;>intro h<;>simp only [nc]at h<;>try omega)
   .refine vv_ (run_leq ..) rfl ?_
    (refine a_ rfl rfl ?_ ?_<;>intro h<;>simp only [nc]at h<;>try omega)
    refine uG_ p1 rfl rfl (uG_ p2 rfl rfl (uG_ p3 rfl rfl (uv_ (xr_ _) rfl ⟨?_,?_,trivial⟩)));rintro ws (⟨_,h0,rfl⟩|⟨h0,_⟩);have hw:=hw h0;refine ve_ rfl (λh12=>?_) (λh12=>?_);have h12:op<=12:=of_decide_eq_true h12;rw [if_pos (by omega)]at hw;have ht:tI (decide (¬k_ op kd a.i (b).i=0))=k_ op kd a.i (b).i:=(by rw [hi0 h0,M_ (by omega)];cases xz_ op a.i (b).i<;>rfl);rw [←ht]at hw;exact vv_ (run_neq ..) rfl (uG_ (yL_ _) rfl rfl (r_ (v:=⟨1,tI (decide (¬k_ op kd a.i (b).i=0)),some 0⟩) hs1 hl1 hw (by by_cases hb:k_ op kd a.i (b).i=0<;>simp [hb]<;>rfl) (λs' _=>rfl)));have h12:¬op<=12:=of_decide_eq_false h12;rw [if_neg (by omega)]at hw;exact r_ (v:=⟨kd,k_ op kd a.i (b).i,some 0⟩) hs1 hl1 hw rfl (λs' _=>rfl);cases h0;rintro ws (⟨h0,_⟩|⟨_,h0,rfl⟩);cases h0;exact VOK_fin (j:=1) rfl (.inr ⟨_,hx h0,rfl,rfl⟩)
   ·(refine a_ rfl rfl ?_ ?_<;>intro h<;>simp only [nc]at h<;>try omega)
    refine uG_ p1 rfl rfl (uG_ p2 rfl rfl (uG_ p3 rfl rfl (uv_ (xr_ _) rfl ⟨?_,?_,trivial⟩)));rintro ws (⟨_,h0,rfl⟩|⟨h0,_⟩);have hw:=hw h0;rw [if_neg (by omega)]at hw;exact r_ (v:=⟨kd,k_ op kd a.i (b).i,some 0⟩) hs1 hl1 hw rfl (λs' _=>rfl);cases h0
    .rintro ws (⟨h0,_⟩|⟨_,h0,rfl⟩);cases h0
     .exact VOK_fin (j:=1) rfl (.inr ⟨_,hx h0,rfl,rfl⟩))
theorem DW_ {m:MS} {s:AV} {st:List FV} {a:FV} {i:GI} (hs:St (st++[a]) s) (hl:st.length<=90) (ho:OpK i.op i.kd) (h14:i.op=15\/i.op=16) (ta:TV a) (hka:a.k=i.kd):
  CF Tryz.prog 97 yE_ (KR m s++tS_ i) (R97 m st (opX i.op a a)):=by
 obtain ⟨op,kd,ad,n,vk,vi,vf⟩:=i;simp only at ho h14 hka;have hl1:st.length<=100:=by omega
 refine vh_ (c:=c97) (n:=300) (t:=t97) mo ov rfl (λY _=>vC_ _) (by kernel_rfl) λY hf hg=>?_;unfold t97;refine uv_ (p94 (m:=m) hs hl1) (show okL (KR m s)=true from C_ m (St.okC hs)) ⟨?_,trivial⟩;rintro ws ⟨s1,hs1,rfl⟩;show VOK Tryz.prog (QF (R97 m st (opX op a a))) _ _ _;have hkb:=hka;have tb:=ta
 (refine a_ rfl rfl ?_ ?_<;>intro h<;>simp only [nc]at h<;>try omega)
 ·(refine a_ rfl rfl ?_ ?_<;>intro h<;>simp only [nc]at h<;>try omega)
  clear h;clear h;clear h14
  (
   by_cases h5:kd=5
   .have hr:=v7_ (h5▸ho);have hw:opX op a a=.ok (wb_ op a.f (a).f):=(by unfold opX opE opV;rw [hka,if_pos h5,if_pos rfl,if_pos h5]);rw [wI_ hr]at hw
    (refine a_ rfl rfl ?_ ?_<;>intro h<;>simp only [nc]at h<;>try omega)
    .refine vv_ (run_leq ..) rfl ?_
     (refine a_ rfl rfl ?_ ?_<;>intro h<;>simp only [nc]at h<;>try omega)
     refine uG_ (yK_ op a.f (a).f hr) rfl (by simp only [okL,okC,vM_]) (vv_ rfl rfl (ve_ (t:=false) rfl (λh=>by cases h) (λ_=>ve_ rfl (λh12=>?_) (λh12=>?_))));have h12:op<=12:=of_decide_eq_true h12;rw [if_pos (by omega)]at hw;exact uG_ (yL_ _) rfl rfl (r_ (v:=⟨1,tI (xe_ op a.f (a).f),some 0⟩) hs1 hl1 hw rfl (λs' _=>rfl));have h12:¬op<=12:=of_decide_eq_false h12;rw [if_neg (by omega)]at hw;exact r_ (v:=⟨5,0,wa_ op a.f (a).f⟩) hs1 hl1 hw rfl (λs' _=>rfl)
    .rw [if_neg (by omega)]at hw
     (refine a_ rfl rfl ?_ ?_<;>intro h<;>simp only [nc]at h<;>try omega)
     exact uG_ (yK_ op a.f (a).f hr) rfl (by simp only [okL,okC,vM_]) (vv_ rfl rfl (ve_ (t:=false) rfl (λh=>by cases h) (λ_=>r_ (v:=⟨5,0,wa_ op a.f (a).f⟩) hs1 hl1 hw rfl (λs' _=>rfl))))
   .have wa:=S_ (hka▸ta.1) h5;have wb:=S_ (hkb▸tb.1) h5;have p1:=w6_ kd a.i;have p2:=w6_ kd (a).i;rw [wa]at p1;rw [wb]at p2;have p3:=A3_ op kd a.i (a).i ho h5;have he:opE op kd a=F_ op (a).i:=(by unfold opE;rw [if_neg h5]);have hi0:F_ op (a).i=0->k_ op kd a.i (a).i=Z_ op kd a.i (a).i:=λh0=>(by unfold k_;rw [if_pos h0]);have hw:F_ op (a).i=0->opX op a a=.ok ⟨if 9<=op/\op<=12 then 1 else kd,k_ op kd a.i (a).i,some 0⟩:=λh0=>(by unfold opX opV;rw [hka,he,if_pos h0,if_neg h5,hi0 h0]);have hx:F_ op (a).i≠0->opX op a a=.error (F_ op (a).i):=λh0=>by unfold opX;rw [hka,he,if_neg h0]
    (refine a_ rfl rfl ?_ ?_<;>intro h<;>simp only [nc]at h<;>try omega)
    .refine vv_ (run_leq ..) rfl ?_
     (refine a_ rfl rfl ?_ ?_<;>intro h<;>simp only [nc]at h<;>try omega)
     refine uG_ p1 rfl rfl (uG_ p2 rfl rfl (uG_ p3 rfl rfl (uv_ (xr_ _) rfl ⟨?_,?_,trivial⟩)));rintro ws (⟨_,h0,rfl⟩|⟨h0,_⟩);have hw:=hw h0;refine ve_ rfl (λh12=>?_) (λh12=>?_);have h12:op<=12:=of_decide_eq_true h12;rw [if_pos (by omega)]at hw;have ht:tI (decide (¬k_ op kd a.i (a).i=0))=k_ op kd a.i (a).i:=(by rw [hi0 h0,M_ (by omega)];cases xz_ op a.i (a).i<;>rfl);rw [←ht]at hw;exact vv_ (run_neq ..) rfl (uG_ (yL_ _) rfl rfl (r_ (v:=⟨1,tI (decide (¬k_ op kd a.i (a).i=0)),some 0⟩) hs1 hl1 hw (by by_cases hb:k_ op kd a.i (a).i=0<;>simp [hb]<;>rfl) (λs' _=>rfl)));have h12:¬op<=12:=of_decide_eq_false h12;rw [if_neg (by omega)]at hw;exact r_ (v:=⟨kd,k_ op kd a.i (a).i,some 0⟩) hs1 hl1 hw rfl (λs' _=>rfl);cases h0;rintro ws (⟨h0,_⟩|⟨_,h0,rfl⟩);cases h0;exact VOK_fin (j:=1) rfl (.inr ⟨_,hx h0,rfl,rfl⟩)
    ·(refine a_ rfl rfl ?_ ?_<;>intro h<;>simp only [nc]at h<;>try omega)
     refine uG_ p1 rfl rfl (uG_ p2 rfl rfl (uG_ p3 rfl rfl (uv_ (xr_ _) rfl ⟨?_,?_,trivial⟩)));rintro ws (⟨_,h0,rfl⟩|⟨h0,_⟩);have hw:=hw h0;rw [if_neg (by omega)]at hw;exact r_ (v:=⟨kd,k_ op kd a.i (a).i,some 0⟩) hs1 hl1 hw rfl (λs' _=>rfl);cases h0
     .rintro ws (⟨h0,_⟩|⟨_,h0,rfl⟩);cases h0
      .exact VOK_fin (j:=1) rfl (.inr ⟨_,hx h0,rfl,rfl⟩))
 .clear h h14
  (
   by_cases h5:kd=5
   .have hr:=v7_ (h5▸ho);have hw:opX op a a=.ok (wb_ op a.f (a).f):=(by unfold opX opE opV;rw [hka,if_pos h5,if_pos rfl,if_pos h5]);rw [wI_ hr]at hw
    (refine a_ rfl rfl ?_ ?_<;>intro h<;>simp only [nc]at h<;>try omega)
    .refine vv_ (run_leq ..) rfl ?_
     (refine a_ rfl rfl ?_ ?_<;>intro h<;>simp only [nc]at h<;>try omega)
     refine uG_ (yK_ op a.f (a).f hr) rfl (by simp only [okL,okC,vM_]) (vv_ rfl rfl (ve_ (t:=false) rfl (λh=>by cases h) (λ_=>ve_ rfl (λh12=>?_) (λh12=>?_))));have h12:op<=12:=of_decide_eq_true h12;rw [if_pos (by omega)]at hw;exact uG_ (yL_ _) rfl rfl (r_ (v:=⟨1,tI (xe_ op a.f (a).f),some 0⟩) hs1 hl1 hw rfl (λs' _=>rfl));have h12:¬op<=12:=of_decide_eq_false h12;rw [if_neg (by omega)]at hw;exact r_ (v:=⟨5,0,wa_ op a.f (a).f⟩) hs1 hl1 hw rfl (λs' _=>rfl)
    .rw [if_neg (by omega)]at hw
     (refine a_ rfl rfl ?_ ?_<;>intro h<;>simp only [nc]at h<;>try omega)
     exact uG_ (yK_ op a.f (a).f hr) rfl (by simp only [okL,okC,vM_]) (vv_ rfl rfl (ve_ (t:=false) rfl (λh=>by cases h) (λ_=>r_ (v:=⟨5,0,wa_ op a.f (a).f⟩) hs1 hl1 hw rfl (λs' _=>rfl))))
   .have wa:=S_ (hka▸ta.1) h5;have wb:=S_ (hkb▸tb.1) h5;have p1:=w6_ kd a.i;have p2:=w6_ kd (a).i;rw [wa]at p1;rw [wb]at p2;have p3:=A3_ op kd a.i (a).i ho h5;have he:opE op kd a=F_ op (a).i:=(by unfold opE;rw [if_neg h5]);have hi0:F_ op (a).i=0->k_ op kd a.i (a).i=Z_ op kd a.i (a).i:=λh0=>(by unfold k_;rw [if_pos h0]);have hw:F_ op (a).i=0->opX op a a=.ok ⟨if 9<=op/\op<=12 then 1 else kd,k_ op kd a.i (a).i,some 0⟩:=λh0=>(by unfold opX opV;rw [hka,he,if_pos h0,if_neg h5,hi0 h0]);have hx:F_ op (a).i≠0->opX op a a=.error (F_ op (a).i):=λh0=>by unfold opX;rw [hka,he,if_neg h0]
    (refine a_ rfl rfl ?_ ?_<;>intro h<;>simp only [nc]at h<;>try omega)
    .refine vv_ (run_leq ..) rfl ?_
     (refine a_ rfl rfl ?_ ?_<;>intro h<;>simp only [nc]at h<;>try omega)
     refine uG_ p1 rfl rfl (uG_ p2 rfl rfl (uG_ p3 rfl rfl (uv_ (xr_ _) rfl ⟨?_,?_,trivial⟩)));rintro ws (⟨_,h0,rfl⟩|⟨h0,_⟩);have hw:=hw h0;refine ve_ rfl (λh12=>?_) (λh12=>?_);have h12:op<=12:=of_decide_eq_true h12;rw [if_pos (by omega)]at hw;have ht:tI (decide (¬k_ op kd a.i (a).i=0))=k_ op kd a.i (a).i:=(by rw [hi0 h0,M_ (by omega)];cases xz_ op a.i (a).i<;>rfl);rw [←ht]at hw;exact vv_ (run_neq ..) rfl (uG_ (yL_ _) rfl rfl (r_ (v:=⟨1,tI (decide (¬k_ op kd a.i (a).i=0)),some 0⟩) hs1 hl1 hw (by by_cases hb:k_ op kd a.i (a).i=0<;>simp [hb]<;>rfl) (λs' _=>rfl)));have h12:¬op<=12:=of_decide_eq_false h12;rw [if_neg (by omega)]at hw;exact r_ (v:=⟨kd,k_ op kd a.i (a).i,some 0⟩) hs1 hl1 hw rfl (λs' _=>rfl);cases h0;rintro ws (⟨h0,_⟩|⟨_,h0,rfl⟩);cases h0;exact VOK_fin (j:=1) rfl (.inr ⟨_,hx h0,rfl,rfl⟩)
    ·(refine a_ rfl rfl ?_ ?_<;>intro h<;>simp only [nc]at h<;>try omega)
     refine uG_ p1 rfl rfl (uG_ p2 rfl rfl (uG_ p3 rfl rfl (uv_ (xr_ _) rfl ⟨?_,?_,trivial⟩)));rintro ws (⟨_,h0,rfl⟩|⟨h0,_⟩);have hw:=hw h0;rw [if_neg (by omega)]at hw;exact r_ (v:=⟨kd,k_ op kd a.i (a).i,some 0⟩) hs1 hl1 hw rfl (λs' _=>rfl);cases h0
     .rintro ws (⟨h0,_⟩|⟨_,h0,rfl⟩);cases h0
      .exact VOK_fin (j:=1) rfl (.inr ⟨_,hx h0,rfl,rfl⟩))
theorem p96 {m:MS} {s:AV} {st:List FV} {a:FV} {i:GI} (hs:St (st++[a]) s) (hl:st.length<=90) (hk:2<=i.kd/\i.kd<=5) (hn:2<=i.n/\i.n<=5) (ta:TV a) (hka:a.k=i.n):
  CF Tryz.prog 96 AN_ (KR m s++tS_ i) (R97 m st (w_ i.kd a)):=by
 obtain ⟨op,kd,ad,n,vk,vi,vf⟩:=i;simp only at hk hn hka;have hl1:st.length<=100:=by omega
 refine vh_ (c:=c96) (n:=300) (t:=t96) mo ov rfl (λY _=>vC_ _) (by kernel_rfl) λY hf hg=>?_;unfold t96;refine uv_ (p94 (m:=m) hs hl1) (show okL (KR m s)=true from C_ m (St.okC hs)) ⟨?_,trivial⟩;rintro ws ⟨s1,hs1,rfl⟩;show VOK Tryz.prog (QF (R97 m st (w_ kd a))) _ _ _
 (refine a_ rfl rfl ?_ ?_<;>intro h<;>simp only [nc]at h<;>try omega)
 .subst h
  (refine a_ rfl rfl ?_ ?_<;>intro h<;>simp only [nc]at h<;>try omega)
  have ha:a=⟨5,0,a.f⟩:=(by have h0:a.i=0:=(by rcases ta.1 with q|q|q|q|q<;>omega);obtain ⟨k,i,f⟩:=a;simp only at hka h0;subst hka h0;rw [h]);have hw:w_ 5 a=.ok ⟨5,0,a.f⟩:=(by unfold w_;rw [if_pos rfl,if_pos (by omega),←ha]);exact r_ (v:=⟨5,0,a.f⟩) hs1 hl1 hw rfl (λs' _=>rfl)
  .have h5:=h
   (refine a_ rfl rfl ?_ ?_<;>intro h<;>simp only [nc]at h<;>try omega)
   exact vv_ (yu_ _) rfl (r_ (v:=⟨5,0,some (FloatKind.f64.nearest a.i)⟩) hs1 hl1 (by unfold w_;rw [if_pos rfl,if_neg (by omega)]) rfl (λs' _=>rfl))
 have hk4:2<=kd/\kd<=4:=by omega
 (refine a_ rfl rfl ?_ ?_<;>intro h<;>simp only [nc]at h<;>try omega)
 (refine a_ rfl rfl ?_ ?_<;>intro h<;>simp only [nc]at h<;>try omega)
 .have h5:=h;refine uG_ (DN_ hk4 a.f) rfl rfl (uv_ (xr_ _) rfl ⟨?_,?_,trivial⟩)
  .rintro ws (⟨_,h0,rfl⟩|⟨h0,_⟩)
   .cases hw:A_ kd a.f with
    |some n=>have e2:lF_ kd a.f=n:=(by unfold lF_;rw [hw];rfl);rw [←e2]at hw;exact r_ (v:=⟨kd,lF_ kd a.f,some 0⟩) hs1 hl1 (by unfold w_;rw [if_neg (by omega),if_pos (by omega),hw]) rfl (λs' _=>rfl)
    |none=>unfold J_ at h0;rw [hw]at h0;cases h0
   cases h0
  .rintro ws (⟨h0,_⟩|⟨_,h0,rfl⟩);cases h0
   .cases hw:A_ kd a.f with
    |some n=>unfold J_ at h0;rw [hw]at h0;exact absurd rfl h0
    |none=>have e1:J_ kd a.f=7:=(by unfold J_;rw [hw];rfl);exact VOK_fin (j:=1) rfl (.inr ⟨7,by unfold w_;rw [if_neg (by omega),if_pos (by omega),hw],rfl,by show [AV.int .i64 (J_ kd a.f)]=_;rw [e1]⟩)
 have h5:=h;exact uG_ (w6_ _ _) rfl rfl (r_ (v:=⟨kd,x_ kd a.i,some 0⟩) hs1 hl1 (by unfold w_;rw [if_neg (by omega),if_neg (by omega)]) rfl (λs' _=>rfl))
def Dn_:VC:=⟨⟨[],[]⟩,[],[],0,true,[]⟩
def CD_:VT:=.ite 64 (.done (.agg [J 1,J 1,.flt .f64 0]))<|.done (.agg [J 1,J 0,.flt .f64 0])
def Do_:VC:=⟨⟨[],[]⟩,[],[],0,true,[]⟩
def CE_:VT:=.ite 64 (.done (.agg [J 1,J 1,.flt .f64 0]))<|.done (.agg [J 1,J 0,.flt .f64 0])
def Bo_:VC:=⟨⟨[],[]⟩,[(174,[(some 3)])],[],1,true,[]⟩
def Ar_:VT:=Li Qk [100,J 1] 130<|It Q3 [130] 131 (Dn [100,101,102,103,104,105,106,107,108,109,110,111])<|Li Qk [103,J 4] 132<|It Q3 [132] 133 (Dn [100,101,102,103,104,105,106,107,108,109,110,111])<|Li Qk [106,J 1] 134<|It Q3 [134] 135 (Dn [100,101,102,103,104,105,106,107,108,109,110,111])<|Li Qk [109,J 4] 136<|It Q3 [136] 137 (Dn [100,101,102,103,104,105,106,107,108,109,110,111])<|Li Q8 [101,J 0] 138<|Li Q8 [107,J 0] 139<|Li (.mm true) [128,J 0] 140<|It Q3 [127] 141 (Dn [J 1,J 0,.flt .f64 0,J 4,J 0,.flt .f64 0,J 1,J 0,.flt .f64 0,J 4,J 0,.flt .f64 0])<|It Q3 [139] 142 (It Uh [129,129] 143 (Li Qy [129] 144<|Li Qy [129] 145<|Li Zu [144,145] 146<|Li Qy [140] 147<|Li Zv [146,147] 148<|Li Zw [148] 149<|Li Qq [149,140] 150<|.call 174 [150] 151 [(some 3)]<|.call 174 [.bool true] 154 [(some 3)]<|Dn [151,152,153,J 4,149,.flt .f64 0,154,155,156,J 4,129,.flt .f64 0])<|Li Qq [J 0,140] 144<|.call 174 [144] 145 [(some 3)]<|.call 174 [.bool true] 148 [(some 3)]<|Dn [145,146,147,J 4,J 0,.flt .f64 0,148,149,150,J 4,129,.flt .f64 0])<|It Uh [129,110] 143 (Li Qy [129] 144<|Li Qy [110] 145<|Li Zu [144,145] 146<|Li Qy [140] 147<|Li Zv [146,147] 148<|Li Zw [148] 149<|Li Qq [149,140] 150<|.call 174 [150] 151 [(some 3)]<|.call 174 [139] 154 [(some 3)]<|Dn [151,152,153,J 4,149,.flt .f64 0,154,155,156,J 4,110,.flt .f64 0])<|Li Qq [J 0,140] 144<|.call 174 [144] 145 [(some 3)]<|.call 174 [139] 148 [(some 3)]<|Dn [145,146,147,J 4,J 0,.flt .f64 0,148,149,150,J 4,110,.flt .f64 0]
def Bp_:VC:=⟨⟨[],[]⟩,[(176,[(some 3)])],[],1,true,[]⟩
def As_:VT:=Li Qk [112,J 1] 129<|It Q3 [129] 130 (Dn [112,113,114,115,116,117,118,119,120])<|Li Qk [115,J 2] 131<|It Q3 [131] 132 (Dn [112,113,114,115,116,117,118,119,120])<|Li Qk [118,J 1] 133<|It Q3 [133] 134 (Dn [112,113,114,115,116,117,118,119,120])<|.ite 127 (It Qt [119,J 0] 135 (Li Ui [116,J 1] 136<|Li Zv [136,J 32767] 137<|Li Qo [137,128] 138<|.call 176 [138] 139 [(some 3)]<|.call 176 [.bool true] 142 [(some 3)]<|Dn [139,140,141,J 2,137,.flt .f64 0,142,143,144])<|Li Qo [116,128] 136<|.call 176 [136] 137 [(some 3)]<|.call 176 [.bool true] 140 [(some 3)]<|Dn [137,138,139,J 2,116,.flt .f64 0,140,141,142])<|Li Qo [116,128] 135<|.call 176 [135] 136 [(some 3)]<|.call 176 [.bool false] 139 [(some 3)]<|Dn [136,137,138,J 2,116,.flt .f64 0,139,140,141]
def Bq_:VC:=⟨⟨[],[]⟩,[(176,[(some 3)])],[],1,true,[]⟩
def At_:VT:=Li Qk [121,J 1] 129<|It Q3 [129] 130 (Dn [121,122,123,124,125,126])<|Li Qk [124,J 1] 131<|It Q3 [131] 132 (Dn [121,122,123,124,125,126])<|Li Q8 [125,J 0] 133<|It (.bin .neq 4 false false) [127,133] 134 (Li Uj [127,.bool true] 135<|.call 176 [135] 136 [(some 3)]<|.call 176 [127] 139 [(some 3)]<|Dn [136,137,138,139,140,141])<|.call 176 [.bool false] 135 [(some 3)]<|.call 176 [127] 138 [(some 3)]<|Dn [135,136,137,138,139,140]
theorem yN_ (b:Bool):kH_ Tryz.prog 174 [.bool b] (.agg (d_ (bv b))):=by refine t6_ (sh:=[none]) (ls:=[.bool b]) (c:=Dn_) (n:=300) (t:=CD_) mo ov rfl rfl rfl (λY _=>vC_ _) rfl (by kernel_rfl) λY hf hg=>?_;unfold CD_;cases b;exact ve_ (t:=false) rfl (λh=>by cases h) (λh=>uH_ rfl);exact ve_ (t:=true) rfl (λh=>uH_ rfl) (λh=>by cases h)
theorem v8_ (b:Bool):kH_ Tryz.prog 176 [.bool b] (.agg (d_ (bv b))):=by refine t6_ (sh:=[none]) (ls:=[.bool b]) (c:=Do_) (n:=300) (t:=CE_) mo ov rfl rfl rfl (λY _=>vC_ _) rfl (by kernel_rfl) λY hf hg=>?_;unfold CE_;cases b;exact ve_ (t:=false) rfl (λh=>by cases h) (λh=>uH_ rfl);exact ve_ (t:=true) rfl (λh=>uH_ rfl) (λh=>by cases h)
def RBk (cs:List FV):Nat->List AV->Prop:=λ_ ws=>ws=aR_ d_ cs
theorem qm_ {cs:List FV} {hv:List AV} {Y:Sy} {L:List (Nat->List AV->Prop)} (h:ab_ Y.v hv=aR_ d_ cs):VOK Tryz.prog (QF (RBk cs)) L Y (.done (.tup (.int .i64 0::hv))):=
 VOK_fin (j:=0) (by rw [h];exact kS_ okV cs) h
theorem o_ {m:FV} {k:Int} (ht:TV m) (hk:m.k=k) (h5:k≠5):∃i,m=⟨k,i,some 0⟩/\InK k i:=by obtain ⟨k',i,f⟩:=m;have hk:k'=k:=hk;subst hk;have hf:f=some 0:=ht.2 h5;subst hf;exact ⟨i,rfl,ht.1⟩
theorem cvU (x:Int):(XOp.conv 2 101).run Tryz.prog [.int .i64 x]=some (.int .u64 (IntKind.u64.wrap x)):=tD_ Tryz.underlying2 Tryz.underlying101 x
theorem BD_ (x:Int) (h1:0<=x) (h2:x<=9223372036854775807):(XOp.conv 101 2).run Tryz.prog [.int .u64 x]=some (.int .i64 x):=by rw [tD_ Tryz.underlying101 Tryz.underlying2,vK_ (by omega) (by omega)]
theorem Az_ {x:Int} (h1:0<=x) (h2:x<=9223372036854775807):IntKind.u64.wrap x=x:=by simp [IntKind.wrap,IntKind.bits,IntKind.signed];omega
theorem Ci_ {a b:Int} (h1:0<=a-b) (h2:a-b<=18446744073709551615):IntKind.u64.wrap (IntKind.u64.wrap a-IntKind.u64.wrap b)=a-b:=by simp [IntKind.wrap,IntKind.bits,IntKind.signed];omega
theorem B4_ {mem:List FV} (hm:MemOk mem) (inn:Bool) {v now:Int} (hv: -9223372036854775808<=v/\v<=9223372036854775807) (hn: -9223372036854775808<=now/\now<=9223372036854775807):
  CF Tryz.prog 115 w4_ (aR_ d_ mem++[.bool inn,.int .i64 v,.int .i64 now]) (RBk (uD_ (ci_ mem 14) (ci_ mem 15) inn v now)):=by
 obtain ⟨m0,m1,m2,m3,m4,m5,m6,m7,m8,m9,m10,m11,m12,m13,m14,m15,m16,m17,m18,m19,m20,rfl⟩:=U_ hm.len;have hm':=MemOk.of.1 hm;obtain ⟨⟨k0,k1,k2,k3,k4,k5,k6,k7,k8,k9,k10,k11,k12,k13,k14,k15,k16,k17,k18,k19,k20⟩,t0,t1,t2,t3,t4,t5,t6,t7,t8,t9,t10,t11,t12,t13,t14,t15,t16,t17,t18,t19,t20⟩:=hm';obtain ⟨i12,rfl,h12⟩:=o_ t12 k12 (by decide);obtain ⟨i13,rfl,h13⟩:=o_ t13 k13 (by decide);obtain ⟨i14,rfl,h14⟩:=o_ t14 k14 (by decide);obtain ⟨i15,rfl,h15⟩:=o_ t15 k15 (by decide);show CF Tryz.prog 115 w4_ _ (RBk (uD_ i14 i15 inn v now));have ha:=h15.i64;refine vh_ (c:=Bo_) (n:=300) (t:=Ar_) mo ov rfl (λY _=>vC_ _) (by kernel_rfl) λY hf hg=>?_;unfold Ar_;refine vv_ (r:=.bool true) rfl rfl (vv_ (r:=.bool false) rfl rfl (ve_ (t:=false) rfl (λh=>by cases h) (λ_=>?_)));refine vv_ (r:=.bool true) rfl rfl (vv_ (r:=.bool false) rfl rfl (ve_ (t:=false) rfl (λh=>by cases h) (λ_=>?_)));refine vv_ (r:=.bool true) rfl rfl (vv_ (r:=.bool false) rfl rfl (ve_ (t:=false) rfl (λh=>by cases h) (λ_=>?_)));refine vv_ (r:=.bool true) rfl rfl (vv_ (r:=.bool false) rfl rfl (ve_ (t:=false) rfl (λh=>by cases h) (λ_=>?_)));refine vv_ (run_neq ..) rfl (vv_ (run_neq ..) rfl (vv_ (r:=.int .i64 (max v 0)) rfl rfl (vv_ (vq_ ..) rfl ?_)));cases inn with
 |false=>exact ve_ (t:=true) rfl (λ_=>qm_ rfl) (λh=>by cases h)
 |true=>
  refine ve_ (t:=false) rfl (λh=>by cases h) (λ_=>vv_ (vq_ ..) rfl (ve_ rfl (λh=>?_) (λh=>?_)))
  .have h0:i14=0:=(by simpa using h);have e:uD_ i14 i15 true v now=[bv (decide (0=max v 0)),tv 0,bv true,tv now]:=(by unfold uD_;rw [if_neg (by decide),if_pos h0]);rw [e]
   (refine a_ rfl rfl ?_ ?_<;>intro h<;>simp only [nc]at h<;>try omega)
   exact vv_ (run_eql ..) rfl (uG_ (yN_ _) rfl rfl (uG_ (yN_ true) rfl rfl (qm_ rfl)))
  .have h0:i14≠0:=(by simpa using h);have e139:(!decide (i14=0))=true:=(by simpa using h0);have e:uD_ i14 i15 true v now=[bv (decide (bn_ now i15 (max v 0)=max v 0)),tv (bn_ now i15 (max v 0)),bv (!decide (i14=0)),tv i15]:=(by unfold uD_;rw [if_neg (by decide),if_neg h0,e139]);rw [e]
   (refine a_ rfl rfl ?_ ?_<;>intro h<;>simp only [nc]at h<;>try omega)
   have hp:bn_ now i15 (max v 0)=min (now-i15) (max v 0):=(by unfold bn_;rw [if_neg (by omega)]);rw [hp];refine vv_ (cvU now) rfl (vv_ (cvU i15) rfl (vv_ (run_sub ..) rfl ?_));rw [Ci_ (by omega) (by omega)];refine vv_ (cvU _) rfl ?_;rw [Az_ (x:=max v 0) (by omega) (by omega)];refine vv_ (r:=.int .u64 (min (now-i15) (max v 0))) rfl rfl (vv_ (BD_ _ (by omega) (by omega)) rfl (vv_ (run_eql ..) rfl (uG_ (yN_ _) rfl rfl (uG_ (yN_ (!decide (i14=0))) rfl rfl (qm_ rfl)))));have hp:bn_ now i15 (max v 0)=0:=(by unfold bn_;rw [if_pos (by omega)]);rw [hp];exact vv_ (run_eql ..) rfl (uG_ (yN_ _) rfl rfl (uG_ (yN_ (!decide (i14=0))) rfl rfl (qm_ rfl)))
theorem B5_ {mem:List FV} (hm:MemOk mem) (inn:Bool) (v:Int):
  CF Tryz.prog 116 w2_ (aR_ d_ mem++[.bool inn,.int .i64 v]) (RBk (tp_ (ci_ mem 17) (ci_ mem 18) inn v)):=by
 obtain ⟨m0,m1,m2,m3,m4,m5,m6,m7,m8,m9,m10,m11,m12,m13,m14,m15,m16,m17,m18,m19,m20,rfl⟩:=U_ hm.len;have hm':=MemOk.of.1 hm;obtain ⟨⟨k0,k1,k2,k3,k4,k5,k6,k7,k8,k9,k10,k11,k12,k13,k14,k15,k16,k17,k18,k19,k20⟩,t0,t1,t2,t3,t4,t5,t6,t7,t8,t9,t10,t11,t12,t13,t14,t15,t16,t17,t18,t19,t20⟩:=hm';obtain ⟨i16,rfl,h16⟩:=o_ t16 k16 (by decide);obtain ⟨i17,rfl,h17⟩:=o_ t17 k17 (by decide);obtain ⟨i18,rfl,h18⟩:=o_ t18 k18 (by decide);show CF Tryz.prog 116 w2_ _ (RBk (tp_ i17 i18 inn v));have hc: -32768<=i17/\i17<=32767:=by rcases h17 with q|q|q|q|q<;>omega
 refine vh_ (c:=Bp_) (n:=300) (t:=As_) mo ov rfl (λY _=>vC_ _) (by kernel_rfl) λY hf hg=>?_;unfold As_;refine vv_ (r:=.bool true) rfl rfl (vv_ (r:=.bool false) rfl rfl (ve_ (t:=false) rfl (λh=>by cases h) (λ_=>?_)));refine vv_ (r:=.bool true) rfl rfl (vv_ (r:=.bool false) rfl rfl (ve_ (t:=false) rfl (λh=>by cases h) (λ_=>?_)));refine vv_ (r:=.bool true) rfl rfl (vv_ (r:=.bool false) rfl rfl (ve_ (t:=false) rfl (λh=>by cases h) (λ_=>?_)));cases inn with
 |false=>have e:tp_ i17 i18 false v=[bv (decide (v<=i17)),nv i17,bv false]:=rfl;rw [e];exact ve_ (t:=false) rfl (λh=>by cases h) (λ_=>vv_ (run_geq ..) rfl (uG_ (v8_ _) rfl rfl (uG_ (v8_ false) rfl rfl (qm_ rfl))))
 |true=>
  refine ve_ (t:=true) rfl (λ_=>?_) (λh=>by cases h)
  (refine a_ rfl rfl ?_ ?_<;>intro h<;>simp only [nc]at h<;>try omega)
  have e:tp_ i17 i18 true v=[bv (decide (v<=min (i17+1) 32767)),nv (min (i17+1) 32767),bv true]:=(by unfold tp_;rw [if_pos ⟨rfl,h⟩]);rw [e];refine vv_ (g_ (x:=i17) (y:=1) (by omega) (by omega)) rfl (vv_ (r:=.int .i64 (min (i17+1) 32767)) rfl rfl (vv_ (run_geq ..) rfl (uG_ (v8_ _) rfl rfl (uG_ (v8_ true) rfl rfl (qm_ rfl)))));have e:tp_ i17 i18 true v=[bv (decide (v<=i17)),nv i17,bv true]:=(by unfold tp_;rw [if_neg (λq=>h q.2)]);rw [e];exact vv_ (run_geq ..) rfl (uG_ (v8_ _) rfl rfl (uG_ (v8_ true) rfl rfl (qm_ rfl)))
theorem B6_ {mem:List FV} (hm:MemOk mem) (inn:Bool) (v:Int):
  CF Tryz.prog 116 w3_ (aR_ d_ mem++[.bool inn,.int .i64 v]) (RBk (bs_ (ci_ mem 20) inn)):=by
 obtain ⟨m0,m1,m2,m3,m4,m5,m6,m7,m8,m9,m10,m11,m12,m13,m14,m15,m16,m17,m18,m19,m20,rfl⟩:=U_ hm.len;have hm':=MemOk.of.1 hm;obtain ⟨⟨k0,k1,k2,k3,k4,k5,k6,k7,k8,k9,k10,k11,k12,k13,k14,k15,k16,k17,k18,k19,k20⟩,t0,t1,t2,t3,t4,t5,t6,t7,t8,t9,t10,t11,t12,t13,t14,t15,t16,t17,t18,t19,t20⟩:=hm';obtain ⟨i19,rfl,h19⟩:=o_ t19 k19 (by decide);obtain ⟨i20,rfl,h20⟩:=o_ t20 k20 (by decide);show CF Tryz.prog 116 w3_ _ (RBk (bs_ i20 inn));refine vh_ (c:=Bq_) (n:=300) (t:=At_) mo ov rfl (λY _=>vC_ _) (by kernel_rfl) λY hf hg=>?_;unfold At_;refine vv_ (r:=.bool true) rfl rfl (vv_ (r:=.bool false) rfl rfl (ve_ (t:=false) rfl (λh=>by cases h) (λ_=>?_)));refine vv_ (r:=.bool true) rfl rfl (vv_ (r:=.bool false) rfl rfl (ve_ (t:=false) rfl (λh=>by cases h) (λ_=>?_)));refine vv_ (run_neq ..) rfl ?_;cases inn with
 |false=>have e:bs_ i20 false=[bv false,bv false]:=rfl;rw [e];by_cases h0:i20=0;subst h0;exact vv_ (r:=.bool false) rfl rfl (ve_ (t:=false) rfl (λh=>by cases h) (λ_=>uG_ (v8_ false) rfl rfl (uG_ (v8_ false) rfl rfl (qm_ rfl))));have e1:(!decide (i20=0))=true:=(by simpa using h0);refine vv_ (r:=.bool true) (by show (XOp.bin .neq 4 false false).run Tryz.prog [.bool false,.bool (!decide (i20=0))]=_;rw [e1];rfl) rfl (ve_ (t:=true) rfl (λ_=>?_) (λh=>by cases h));exact vv_ (r:=.bool false) rfl rfl (uG_ (v8_ false) rfl rfl (uG_ (v8_ false) rfl rfl (qm_ rfl)))
 |true=>by_cases h0:i20=0;subst h0;have e:bs_ 0 true=[bv true,bv true]:=rfl;rw [e];exact vv_ (r:=.bool true) rfl rfl (ve_ (t:=true) rfl (λ_=>vv_ (r:=.bool true) rfl rfl (uG_ (v8_ true) rfl rfl (uG_ (v8_ true) rfl rfl (qm_ rfl)))) (λh=>by cases h));have e:bs_ i20 true=[bv false,bv true]:=(by unfold bs_;rw [decide_eq_false h0];rfl);rw [e];have e1:(!decide (i20=0))=true:=(by simpa using h0);refine vv_ (r:=.bool false) (by show (XOp.bin .neq 4 false false).run Tryz.prog [.bool true,.bool (!decide (i20=0))]=_;rw [e1];rfl) rfl (ve_ (t:=false) rfl (λh=>by cases h) (λ_=>?_));exact uG_ (v8_ false) rfl rfl (uG_ (v8_ true) rfl rfl (qm_ rfl))
theorem pC_ {l:List FV} (h:l.length=21):(XOp.opn 21 3).run Tryz.prog [c_ l]=some (.agg (aR_ d_ l)):=by obtain ⟨m0,m1,m2,m3,m4,m5,m6,m7,m8,m9,m10,m11,m12,m13,m14,m15,m16,m17,m18,m19,m20,rfl⟩:=U_ h;rfl
theorem mt_ (l:List FV):(aR_ d_ l).length=l.length*3:=by
 induction l with
 |nil=>rfl
 |cons a r ih=>simp only [aR_,List.length_append,us_,ih,List.length_cons];omega
theorem BA_ {m0 m1 m2 m3 m4 m5 m6 m7 m8 m9 m10 m11 m12 m13 m14 m15 m16 m17 m18 m19 m20:FV} (hm:MemOk [m0,m1,m2,m3,m4,m5,m6,m7,m8,m9,m10,m11,m12,m13,m14,m15,m16,m17,m18,m19,m20]): -32768<=m17.i/\m17.i<=32767:=by have h:=MemOk.of.1 hm;obtain ⟨⟨k0,k1,k2,k3,k4,k5,k6,k7,k8,k9,k10,k11,k12,k13,k14,k15,k16,k17,k18,k19,k20⟩,t0,t1,t2,t3,t4,t5,t6,t7,t8,t9,t10,t11,t12,t13,t14,t15,t16,t17,t18,t19,t20⟩:=h;rcases t17.1 with q|q|q|q|q<;>omega
theorem BK_ {mem:List FV} (h:MemOk mem):(XOp.bin .eql 31 false true).run Tryz.prog [c_ mem,.nsl]=some (.bool false):=by obtain ⟨m0,m1,m2,m3,m4,m5,m6,m7,m8,m9,m10,m11,m12,m13,m14,m15,m16,m17,m18,m19,m20,rfl⟩:=U_ h.len;kernel_rfl
theorem xV_ {mem:List FV} (h:MemOk mem):(XOp.app 3 24).run Tryz.prog [.vsl 0 3 [],c_ mem]=some (c_ mem):=by obtain ⟨m0,m1,m2,m3,m4,m5,m6,m7,m8,m9,m10,m11,m12,m13,m14,m15,m16,m17,m18,m19,m20,rfl⟩:=U_ h.len;kernel_rfl
def Dx_:VC:=⟨⟨[],[]⟩,[(89,[none])],[],1,true,[]⟩
def CN_:VT:=It Q7 [100,J 1] 130 (Dn [100,101,102,103,104,105,106,107,108,109,110,111])<|It Q7 [103,J 4] 131 (Dn [100,101,102,103,104,105,106,107,108,109,110,111])<|It Q7 [106,J 1] 132 (Dn [100,101,102,103,104,105,106,107,108,109,110,111])<|It Q7 [109,J 4] 133 (Dn [100,101,102,103,104,105,106,107,108,109,110,111])<|Li (.mm true) [128,J 0] 134<|Li Q8 [101,J 0] 135<|Li Q8 [107,J 0] 136<|It Q3 [127] 137 (.call 89 [.bool false] 138 [none]<|.call 89 [.bool false] 139 [none]<|Dn [100,138,102,103,J 0,105,106,139,108,109,J 0,111])<|It Q3 [136] 138 (It Zr [129,129] 139 (Li Qq [J 0,134] 140<|.call 89 [140] 141 [none]<|.call 89 [.bool true] 142 [none]<|Dn [100,141,102,103,J 0,105,106,142,108,109,129,111])<|Li Qy [129] 140<|Li Qy [129] 141<|Li Zu [140,141] 142<|Li Qy [134] 143<|It Uk [142,143] 144 (Li Qq [134,134] 145<|.call 89 [145] 146 [none]<|.call 89 [.bool true] 147 [none]<|Dn [100,146,102,103,134,105,106,147,108,109,129,111])<|Li Zw [142] 145<|Li Qq [145,134] 146<|.call 89 [146] 147 [none]<|.call 89 [.bool true] 148 [none]<|Dn [100,147,102,103,145,105,106,148,108,109,129,111])<|It Zr [129,110] 139 (Li Qq [J 0,134] 140<|.call 89 [140] 141 [none]<|.call 89 [136] 142 [none]<|Dn [100,141,102,103,J 0,105,106,142,108,109,110,111])<|Li Qy [129] 140<|Li Qy [110] 141<|Li Zu [140,141] 142<|Li Qy [134] 143<|It Uk [142,143] 144 (Li Qq [134,134] 145<|.call 89 [145] 146 [none]<|.call 89 [136] 147 [none]<|Dn [100,146,102,103,134,105,106,147,108,109,110,111])<|Li Zw [142] 145<|Li Qq [145,134] 146<|.call 89 [146] 147 [none]<|.call 89 [136] 148 [none]<|Dn [100,147,102,103,145,105,106,148,108,109,110,111]
def Dy_:VC:=⟨⟨[],[]⟩,[(89,[none])],[],1,true,[]⟩
def CO_:VT:=Dn [112,113,114,115,116,117,118,119,120]
def Dz_:VC:=⟨⟨[],[]⟩,[(89,[none])],[],1,true,[]⟩
def CP_:VT:=Dn [121,122,123,124,125,126]
def DA_:VC:=⟨⟨[],[]⟩,[(89,[none])],[],1,true,[]⟩
def CQ_:VT:=It Q7 [112,J 1] 129 (Dn [112,113,114,115,116,117,118,119,120])<|It Q7 [115,J 2] 130 (Dn [112,113,114,115,116,117,118,119,120])<|It Q7 [118,J 1] 131 (Dn [112,113,114,115,116,117,118,119,120])<|Li Q8 [119,J 0] 132<|.call 89 [127] 133 [none]<|.ite 127 (It Q3 [132] 134 (Li Ui [116,J 1] 135<|Li Zv [135,J 32767] 136<|Li Qo [136,128] 137<|.call 89 [137] 138 [none]<|Dn [112,138,114,115,136,117,118,133,120])<|Li Qo [116,128] 135<|.call 89 [135] 136 [none]<|Dn [112,136,114,115,116,117,118,133,120])<|Li Qo [116,128] 134<|.call 89 [134] 135 [none]<|Dn [112,135,114,115,116,117,118,133,120]
def DB_:VC:=⟨⟨[],[]⟩,[(89,[none])],[],1,true,[]⟩
def CR_:VT:=It Q7 [121,J 1] 129 (Dn [121,122,123,124,125,126])<|It Q7 [124,J 1] 130 (Dn [121,122,123,124,125,126])<|Li Q8 [125,J 0] 131<|.call 89 [127] 132 [none]<|.ite 127 (Li Q3 [131] 133<|.call 89 [133] 134 [none]<|Dn [121,134,123,124,132,126])<|.call 89 [.bool false] 133 [none]<|Dn [121,133,123,124,132,126]
def Dq_:VC:=⟨⟨[],[]⟩,[],[(10001,[⟨[],[],0,0,[⟨0,3,21,0,none⟩],[],[]⟩])],1,true,[(98,w4_)]⟩
def CG_:VT:=Li Qg [67,.agg [J 0,J 0,.flt .f64 0]] 69<|.lt Z4 [64] 70 (some 63)<|Li Q1 [69,J 0] 133<|Li Qr [69,133] 134<|Li Q8 [134,J 0] 135<|Li Q1 [69,J 1] 136<|Li Qr [69,136] 137<|Cf 98 w4_ [70,71,72,73,74,75,76,77,78,79,80,81,82,83,84,85,86,87,88,89,90,91,92,93,94,95,96,97,98,99,100,101,102,103,104,105,106,107,108,109,110,111,112,113,114,115,116,117,118,119,120,121,122,123,124,125,126,127,128,129,130,131,132,135,137,68] 138 12<|Dn [.vsl 21 3 [70,71,72,73,74,75,76,77,78,79,80,81,82,83,84,85,86,87,88,89,90,91,92,93,94,95,96,97,98,99,100,101,102,103,104,105,204,205,206,207,208,209,210,211,212,213,214,215,118,119,120,121,122,123,124,125,126,127,128,129,130,131,132]]
def Dr_:VC:=⟨⟨[],[]⟩,[],[(10001,[⟨[],[],0,0,[⟨0,3,21,0,none⟩],[],[]⟩])],1,true,[(98,AO_),(99,w2_)]⟩
def CH_:VT:=Li Qg [67,.agg [J 0,J 0,.flt .f64 0]] 69<|.lt Z4 [64] 70 (some 63)<|Li Q1 [69,J 0] 133<|Li Qr [69,133] 134<|Li Q8 [134,J 0] 135<|Li Q1 [69,J 1] 136<|Li Qr [69,136] 137<|Cf 98 AO_ [70,71,72,73,74,75,76,77,78,79,80,81,82,83,84,85,86,87,88,89,90,91,92,93,94,95,96,97,98,99,100,101,102,103,104,105,106,107,108,109,110,111,112,113,114,115,116,117,118,119,120,121,122,123,124,125,126,127,128,129,130,131,132,135,137,68] 138 9<|Li Q1 [69,J 0] 213<|Li Qr [69,213] 214<|Li Q8 [214,J 0] 215<|Li Q1 [69,J 1] 216<|Li Qr [69,216] 217<|Cf 99 w2_ [70,71,72,73,74,75,76,77,78,79,80,81,82,83,84,85,86,87,88,89,90,91,92,93,94,95,96,97,98,99,100,101,102,103,104,105,106,107,108,109,110,111,112,113,114,115,116,117,118,119,120,121,122,123,124,125,126,127,128,129,130,131,132,215,217] 218 9<|Dn [.vsl 21 3 [70,71,72,73,74,75,76,77,78,79,80,81,82,83,84,85,86,87,88,89,90,91,92,93,94,95,96,97,98,99,100,101,102,103,104,105,106,107,108,109,110,111,112,113,114,115,116,117,283,284,285,286,287,288,289,290,291,127,128,129,130,131,132]]
def Ds_:VC:=⟨⟨[],[]⟩,[],[(10001,[⟨[],[],0,0,[⟨0,3,21,0,none⟩],[],[]⟩])],1,true,[(98,AP_),(99,w3_)]⟩
def CI_:VT:=Li Qg [67,.agg [J 0,J 0,.flt .f64 0]] 69<|.lt Z4 [64] 70 (some 63)<|Li Q1 [69,J 0] 133<|Li Qr [69,133] 134<|Li Q8 [134,J 0] 135<|Li Q1 [69,J 1] 136<|Li Qr [69,136] 137<|Cf 98 AP_ [70,71,72,73,74,75,76,77,78,79,80,81,82,83,84,85,86,87,88,89,90,91,92,93,94,95,96,97,98,99,100,101,102,103,104,105,106,107,108,109,110,111,112,113,114,115,116,117,118,119,120,121,122,123,124,125,126,127,128,129,130,131,132,135,137,68] 138 6<|Li Q1 [69,J 0] 210<|Li Qr [69,210] 211<|Li Q8 [211,J 0] 212<|Li Q1 [69,J 1] 213<|Li Qr [69,213] 214<|Cf 99 w3_ [70,71,72,73,74,75,76,77,78,79,80,81,82,83,84,85,86,87,88,89,90,91,92,93,94,95,96,97,98,99,100,101,102,103,104,105,106,107,108,109,110,111,112,113,114,115,116,117,118,119,120,121,122,123,124,125,126,127,128,129,130,131,132,212,214] 215 6<|Dn [.vsl 21 3 [70,71,72,73,74,75,76,77,78,79,80,81,82,83,84,85,86,87,88,89,90,91,92,93,94,95,96,97,98,99,100,101,102,103,104,105,106,107,108,109,110,111,112,113,114,115,116,117,118,119,120,121,122,123,124,125,126,280,281,282,283,284,285]]
theorem DY_ {mem:List FV} (hm:MemOk mem) (inn:Bool) {v now:Int} (hv: -9223372036854775808<=v/\v<=9223372036854775807) (hn: -9223372036854775808<=now/\now<=9223372036854775807):
  CF Tryz.prog 98 w4_ (aR_ d_ mem++[.bool inn,.int .i64 v,.int .i64 now]) (RBk (uD_ (ci_ mem 14) (ci_ mem 15) inn v now)):=by
 obtain ⟨m0,m1,m2,m3,m4,m5,m6,m7,m8,m9,m10,m11,m12,m13,m14,m15,m16,m17,m18,m19,m20,rfl⟩:=U_ hm.len;have hm':=MemOk.of.1 hm;obtain ⟨⟨k0,k1,k2,k3,k4,k5,k6,k7,k8,k9,k10,k11,k12,k13,k14,k15,k16,k17,k18,k19,k20⟩,t0,t1,t2,t3,t4,t5,t6,t7,t8,t9,t10,t11,t12,t13,t14,t15,t16,t17,t18,t19,t20⟩:=hm';obtain ⟨i12,rfl,h12⟩:=o_ t12 k12 (by decide);obtain ⟨i13,rfl,h13⟩:=o_ t13 k13 (by decide);obtain ⟨i14,rfl,h14⟩:=o_ t14 k14 (by decide);obtain ⟨i15,rfl,h15⟩:=o_ t15 k15 (by decide);show CF Tryz.prog 98 w4_ _ (RBk (uD_ i14 i15 inn v now));have ha:=h15.i64;refine vh_ (c:=Dx_) (n:=300) (t:=CN_) mo ov rfl (λY _=>vC_ _) (by kernel_rfl) λY hf hg=>?_;unfold CN_;refine vv_ (r:=.bool false) rfl rfl (ve_ (t:=false) rfl (λh=>by cases h) (λ_=>?_));refine vv_ (r:=.bool false) rfl rfl (ve_ (t:=false) rfl (λh=>by cases h) (λ_=>?_));refine vv_ (r:=.bool false) rfl rfl (ve_ (t:=false) rfl (λh=>by cases h) (λ_=>?_));refine vv_ (r:=.bool false) rfl rfl (ve_ (t:=false) rfl (λh=>by cases h) (λ_=>?_));refine vv_ (r:=.int .i64 (max v 0)) rfl rfl (vv_ (run_neq ..) rfl (vv_ (run_neq ..) rfl (vv_ (vq_ ..) rfl ?_)));cases inn with
 |false=>exact ve_ (t:=true) rfl (λ_=>uG_ (p89 false) rfl rfl (uG_ (p89 false) rfl rfl (qm_ rfl))) (λh=>by cases h)
 |true=>
  refine ve_ (t:=false) rfl (λh=>by cases h) (λ_=>vv_ (vq_ ..) rfl (ve_ rfl (λh=>?_) (λh=>?_)))
  .have h0:i14=0:=(by simpa using h);have e:uD_ i14 i15 true v now=[bv (decide (0=max v 0)),tv 0,bv true,tv now]:=(by unfold uD_;rw [if_neg (by decide),if_pos h0]);rw [e]
   (refine a_ rfl rfl ?_ ?_<;>intro h<;>simp only [nc]at h<;>try omega)
   exact vv_ (run_eql ..) rfl (uG_ (p89 _) rfl rfl (uG_ (p89 true) rfl rfl (qm_ rfl)))
  .have h0:i14≠0:=(by simpa using h);have e139:(!decide (i14=0))=true:=(by simpa using h0);have e:uD_ i14 i15 true v now=[bv (decide (bn_ now i15 (max v 0)=max v 0)),tv (bn_ now i15 (max v 0)),bv (!decide (i14=0)),tv i15]:=(by unfold uD_;rw [if_neg (by decide),if_neg h0,e139]);rw [e]
   (refine a_ rfl rfl ?_ ?_<;>intro h<;>simp only [nc]at h<;>try omega)
   have hp:bn_ now i15 (max v 0)=0:=(by unfold bn_;rw [if_pos (by omega)]);rw [hp];exact vv_ (run_eql ..) rfl (uG_ (p89 _) rfl rfl (uG_ (p89 (!decide (i14=0))) rfl rfl (qm_ rfl)))
   .have hp:bn_ now i15 (max v 0)=min (now-i15) (max v 0):=(by unfold bn_;rw [if_neg (by omega)]);rw [hp];refine vv_ (cvU now) rfl (vv_ (cvU i15) rfl (vv_ (run_sub ..) rfl ?_));rw [Ci_ (by omega) (by omega)];refine vv_ (cvU _) rfl ?_;rw [Az_ (x:=max v 0) (by omega) (by omega)]
    (refine a_ rfl rfl ?_ ?_<;>intro h<;>simp only [nc]at h<;>try omega)
    have hq:min (now-i15) (max v 0)=max v 0:=(by omega);rw [hq];exact vv_ (run_eql ..) rfl (uG_ (p89 _) rfl rfl (uG_ (p89 (!decide (i14=0))) rfl rfl (qm_ rfl)));have hq:min (now-i15) (max v 0)=now-i15:=(by omega);rw [hq];exact vv_ (BD_ _ (by omega) (by omega)) rfl (vv_ (run_eql ..) rfl (uG_ (p89 _) rfl rfl (uG_ (p89 (!decide (i14=0))) rfl rfl (qm_ rfl))))
theorem DZ_ {mem:List FV} (hm:MemOk mem) (inn:Bool) (v now:Int):
  CF Tryz.prog 98 AO_ (aR_ d_ mem++[.bool inn,.int .i64 v,.int .i64 now]) (RBk ((mem.drop 16).take 3)):=by
 obtain ⟨m0,m1,m2,m3,m4,m5,m6,m7,m8,m9,m10,m11,m12,m13,m14,m15,m16,m17,m18,m19,m20,rfl⟩:=U_ hm.len;refine vh_ (c:=Dy_) (n:=300) (t:=CO_) mo ov rfl (λY _=>vC_ _) (by kernel_rfl) λY hf hg=>?_;unfold CO_;exact qm_ rfl
theorem D0_ {mem:List FV} (hm:MemOk mem) (inn:Bool) (v now:Int):
  CF Tryz.prog 98 AP_ (aR_ d_ mem++[.bool inn,.int .i64 v,.int .i64 now]) (RBk ((mem.drop 19).take 2)):=by
 obtain ⟨m0,m1,m2,m3,m4,m5,m6,m7,m8,m9,m10,m11,m12,m13,m14,m15,m16,m17,m18,m19,m20,rfl⟩:=U_ hm.len;refine vh_ (c:=Dz_) (n:=300) (t:=CP_) mo ov rfl (λY _=>vC_ _) (by kernel_rfl) λY hf hg=>?_;unfold CP_;exact qm_ rfl
theorem D1_ {mem:List FV} (hm:MemOk mem) (inn:Bool) (v:Int):
  CF Tryz.prog 99 w2_ (aR_ d_ mem++[.bool inn,.int .i64 v]) (RBk (tp_ (ci_ mem 17) (ci_ mem 18) inn v)):=by
 obtain ⟨m0,m1,m2,m3,m4,m5,m6,m7,m8,m9,m10,m11,m12,m13,m14,m15,m16,m17,m18,m19,m20,rfl⟩:=U_ hm.len;have hm':=MemOk.of.1 hm;obtain ⟨⟨k0,k1,k2,k3,k4,k5,k6,k7,k8,k9,k10,k11,k12,k13,k14,k15,k16,k17,k18,k19,k20⟩,t0,t1,t2,t3,t4,t5,t6,t7,t8,t9,t10,t11,t12,t13,t14,t15,t16,t17,t18,t19,t20⟩:=hm';obtain ⟨i16,rfl,h16⟩:=o_ t16 k16 (by decide);obtain ⟨i17,rfl,h17⟩:=o_ t17 k17 (by decide);obtain ⟨i18,rfl,h18⟩:=o_ t18 k18 (by decide);show CF Tryz.prog 99 w2_ _ (RBk (tp_ i17 i18 inn v));have hc: -32768<=i17/\i17<=32767:=by rcases h17 with q|q|q|q|q<;>omega
 refine vh_ (c:=DA_) (n:=300) (t:=CQ_) mo ov rfl (λY _=>vC_ _) (by kernel_rfl) λY hf hg=>?_;unfold CQ_;refine vv_ (r:=.bool false) rfl rfl (ve_ (t:=false) rfl (λh=>by cases h) (λ_=>?_));refine vv_ (r:=.bool false) rfl rfl (ve_ (t:=false) rfl (λh=>by cases h) (λ_=>?_));refine vv_ (r:=.bool false) rfl rfl (ve_ (t:=false) rfl (λh=>by cases h) (λ_=>?_));refine vv_ (run_neq ..) rfl (uG_ (p89 inn) rfl rfl ?_);cases inn with
 |false=>have e:tp_ i17 i18 false v=[bv (decide (v<=i17)),nv i17,bv false]:=rfl;rw [e];exact ve_ (t:=false) rfl (λh=>by cases h) (λ_=>vv_ (run_geq ..) rfl (uG_ (p89 _) rfl rfl (qm_ rfl)))
 |true=>refine ve_ (t:=true) rfl (λ_=>vv_ (vq_ ..) rfl (ve_ rfl (λh=>?_) (λh=>?_))) (λh=>by cases h);have h0:i18=0:=(by simpa using h);have e:tp_ i17 i18 true v=[bv (decide (v<=min (i17+1) 32767)),nv (min (i17+1) 32767),bv true]:=(by unfold tp_;rw [if_pos ⟨rfl,h0⟩]);rw [e];exact vv_ (g_ (x:=i17) (y:=1) (by omega) (by omega)) rfl (vv_ (r:=.int .i64 (min (i17+1) 32767)) rfl rfl (vv_ (run_geq ..) rfl (uG_ (p89 _) rfl rfl (qm_ rfl))));have h0:i18≠0:=(by simpa using h);have e:tp_ i17 i18 true v=[bv (decide (v<=i17)),nv i17,bv true]:=(by unfold tp_;rw [if_neg (λq=>h0 q.2)]);rw [e];exact vv_ (run_geq ..) rfl (uG_ (p89 _) rfl rfl (qm_ rfl))
theorem D2_ {mem:List FV} (hm:MemOk mem) (inn:Bool) (v:Int):
  CF Tryz.prog 99 w3_ (aR_ d_ mem++[.bool inn,.int .i64 v]) (RBk (bs_ (ci_ mem 20) inn)):=by
 obtain ⟨m0,m1,m2,m3,m4,m5,m6,m7,m8,m9,m10,m11,m12,m13,m14,m15,m16,m17,m18,m19,m20,rfl⟩:=U_ hm.len;have hm':=MemOk.of.1 hm;obtain ⟨⟨k0,k1,k2,k3,k4,k5,k6,k7,k8,k9,k10,k11,k12,k13,k14,k15,k16,k17,k18,k19,k20⟩,t0,t1,t2,t3,t4,t5,t6,t7,t8,t9,t10,t11,t12,t13,t14,t15,t16,t17,t18,t19,t20⟩:=hm';obtain ⟨i19,rfl,h19⟩:=o_ t19 k19 (by decide);obtain ⟨i20,rfl,h20⟩:=o_ t20 k20 (by decide);show CF Tryz.prog 99 w3_ _ (RBk (bs_ i20 inn));refine vh_ (c:=DB_) (n:=300) (t:=CR_) mo ov rfl (λY _=>vC_ _) (by kernel_rfl) λY hf hg=>?_;unfold CR_;refine vv_ (r:=.bool false) rfl rfl (ve_ (t:=false) rfl (λh=>by cases h) (λ_=>?_));refine vv_ (r:=.bool false) rfl rfl (ve_ (t:=false) rfl (λh=>by cases h) (λ_=>?_));refine vv_ (run_neq ..) rfl (uG_ (p89 inn) rfl rfl ?_);cases inn with
 |false=>exact ve_ (t:=false) rfl (λh=>by cases h) (λ_=>uG_ (p89 false) rfl rfl (qm_ rfl))
 |true=>refine ve_ (t:=true) rfl (λ_=>vv_ (vq_ ..) rfl (uG_ (p89 _) rfl rfl ?_)) (λh=>by cases h);have e:bs_ i20 true=[bv (!!decide (i20=0)),bv true]:=(by unfold bs_;rw [Bool.not_not];rfl);rw [e];exact qm_ rfl
def R61 (m:List FV):Nat->List AV->Prop:=λ_ ws=>ws=[c_ m]
theorem yZ_ {m:List FV} {x:List FV} {hv:List AV} {Y:Sy} {L:List (Nat->List AV->Prop)} (h:ab_ Y.v hv=[c_ x]) (e:m=x):VOK Tryz.prog (QF (R61 m)) L Y (.done (.tup (.int .i64 0::hv))):=
 VOK_fin (j:=0) (by rw [h];simp only [okL,okC,aM_]) (by rw [e];exact h)
theorem x2_ {ls:List AV} {kd ad:Int} (h1:ls[1]? =some (.int .i64 kd)) (h2:ls[2]? =some (.int .i64 ad)) {B:World} {pr:Nat->Prop} {E:Env} {w:World} {us:List Value} (h:∀(i:Nat) (a:AV),ls[i]? =some a->E.sy (64+i)=some a)
  (hr:Rel B pr E (ft61.ent.heap 64) w) (hc:ConL E (bq_ 64 (cm_ ft61.ent.slots)) us):Rel B pr E heap61 w/\ConL E (wL_ kd ad) us:=by
 refine ⟨hr,?_⟩;have e:bq_ 64 (cm_ ft61.ent.slots)=[.slx 0 3 64,.sym 65,.sym 66,.slx 1 3 67,.sym 68]:=by kernel_rfl
 rw [e]at hc;have e2:wL_ kd ad=gl_ 2 (.int .i64 ad) (gl_ 1 (.int .i64 kd) [.slx 0 3 64,.sym 65,.sym 66,.slx 1 3 67,.sym 68]):=rfl;rw [e2];exact mZ_ (a:=.sym 66) (λv hv=>uA_ (h 2 _ h2) hv) 2 _ _ rfl (mZ_ (a:=.sym 65) (λv hv=>uA_ (h 1 _ h1) hv) 1 _ _ rfl hc)
theorem xw_ {l:List FV} (h:l.length=1\/l.length=2):∃a b r,l++[FV.z]=a::b::r/\l.headD FV.z=a/\l.tail.headD FV.z=b:=by rcases l with _|⟨a,_|⟨b,_|⟨c,r⟩⟩⟩;simp at h;exact ⟨_,_,_,rfl,rfl,rfl⟩;exact ⟨_,_,_,rfl,rfl,rfl⟩;simp at h
theorem DT_ {mem:List FV} (hm:MemOk mem) {now:Int} (hn: -9223372036854775808<=now/\now<=9223372036854775807) {l:List FV} (hl:l.length=1\/l.length=2) (hv: -9223372036854775808<=(l.tail.headD FV.z).i/\(l.tail.headD FV.z).i<=9223372036854775807):
  CF Tryz.prog 61 ft61 [c_ mem,.int .i64 6,.int .i64 12,c_ l,.int .i64 now] (R61 (n_ now 6 mem (decide ((l.headD FV.z).i≠0)) (l.tail.headD FV.z).i)):=by
 have hc:=DY_ hm (decide ((l.headD FV.z).i≠0)) hv hn;obtain ⟨x,y,r,e1,e2,e3⟩:=xw_ hl;rw [e3]at hv;rw [e2,e3]at hc⊢;obtain ⟨m0,m1,m2,m3,m4,m5,m6,m7,m8,m9,m10,m11,m12,m13,m14,m15,m16,m17,m18,m19,m20,rfl⟩:=U_ hm.len;have hop:=pC_ (l:=[m0,m1,m2,m3,m4,m5,m6,m7,m8,m9,m10,m11,m12,m13,m14,m15,m16,m17,m18,m19,m20]) rfl;refine vg_ (c:=Dq_) (ex:=[]) (args:=wL_ 6 12) (H:=heap61) (n:=300) (t:=CG_) mo ov rfl (λY=>vC_ _) rfl (λB pr E w us h _ hr hc=>x2_ rfl rfl h hr hc) (by kernel_rfl) λY hf hg=>?_;unfold CG_;have ha:=wT_ l FV.z (by omega);rw [e1]at ha;refine vv_ ha (aM_ _) (vf_ hop rfl (kS_ okV _) ?_);refine vv_ rfl rfl (vv_ (r:=.int .i64 x.i) rfl rfl (vv_ (run_neq ..) rfl (vv_ rfl rfl (vv_ (r:=.int .i64 y.i) rfl rfl ?_))));have e4:decide (x.i≠0)= !decide (x.i=0):=by rw [decide_not]
 rw [e4]at hc⊢;refine uv_ hc ?_ ⟨?_,trivial⟩;exact (show okL (aR_ d_ [m0,m1,m2,m3,m4,m5,m6,m7,m8,m9,m10,m11,m12,m13,m14,m15,m16,m17,m18,m19,m20]++[.bool (!decide (x.i=0)),.int .i64 y.i,.int .i64 now])=true from kS_.okL_join (kS_ okV _) rfl);intro ws hws;obtain ⟨a,b,c,d,e,_⟩:=x6_ m14.i m15.i (!decide (x.i=0)) (v:=y.i) (now:=now) hv.2 hn (((MemOk.of.1 hm).2.2.2.2.2.2.2.2.2.2.2.2.2.2.2.2.1).1.i64);have hws:ws=aR_ d_ (uD_ m14.i m15.i (!decide (x.i=0)) y.i now):=hws;rw [e]at hws;subst hws;exact yZ_ (x:=[m0,m1,m2,m3,m4,m5,m6,m7,m8,m9,m10,m11,a,b,c,d,m16,m17,m18,m19,m20]) rfl (by show wS_ _ 12 (uD_ m14.i m15.i (!decide (x.i=0)) y.i now)=_;rw [e];rfl)
theorem DU_ {mem:List FV} (hm:MemOk mem) (now:Int) {l:List FV} (hl:l.length=1\/l.length=2):
  CF Tryz.prog 61 ft61 [c_ mem,.int .i64 9,.int .i64 16,c_ l,.int .i64 now] (R61 (n_ now 9 mem (decide ((l.headD FV.z).i≠0)) (l.tail.headD FV.z).i)):=by
 have hc:=DZ_ hm (decide ((l.headD FV.z).i≠0)) (l.tail.headD FV.z).i now;have hd:=D1_ hm (decide ((l.headD FV.z).i≠0)) (l.tail.headD FV.z).i;obtain ⟨x,y,r,e1,e2,e3⟩:=xw_ hl;rw [e2,e3]at hc hd⊢;obtain ⟨m0,m1,m2,m3,m4,m5,m6,m7,m8,m9,m10,m11,m12,m13,m14,m15,m16,m17,m18,m19,m20,rfl⟩:=U_ hm.len;have hop:=pC_ (l:=[m0,m1,m2,m3,m4,m5,m6,m7,m8,m9,m10,m11,m12,m13,m14,m15,m16,m17,m18,m19,m20]) rfl;refine vg_ (c:=Dr_) (ex:=[]) (args:=wL_ 9 16) (H:=heap61) (n:=300) (t:=CH_) mo ov rfl (λY=>vC_ _) rfl (λB pr E w us h _ hr hc=>x2_ rfl rfl h hr hc) (by kernel_rfl) λY hf hg=>?_;unfold CH_;have ha:=wT_ l FV.z (by omega);rw [e1]at ha;refine vv_ ha (aM_ _) (vf_ hop rfl (kS_ okV _) ?_);refine vv_ rfl rfl (vv_ (r:=.int .i64 x.i) rfl rfl (vv_ (run_neq ..) rfl (vv_ rfl rfl (vv_ (r:=.int .i64 y.i) rfl rfl ?_))));have e4:decide (x.i≠0)= !decide (x.i=0):=by rw [decide_not]
 rw [e4]at hc hd⊢;refine uv_ hc ?_ ⟨?_,trivial⟩;exact (show okL (aR_ d_ [m0,m1,m2,m3,m4,m5,m6,m7,m8,m9,m10,m11,m12,m13,m14,m15,m16,m17,m18,m19,m20]++[.bool (!decide (x.i=0)),.int .i64 y.i,.int .i64 now])=true from kS_.okL_join (kS_ okV _) rfl);intro ws hws;have hws:ws=aR_ d_ [m16,m17,m18]:=hws;subst hws;refine vv_ rfl rfl (vv_ (r:=.int .i64 x.i) rfl rfl (vv_ (run_neq ..) rfl (vv_ rfl rfl (vv_ (r:=.int .i64 y.i) rfl rfl ?_))));refine uv_ hd ?_ ⟨?_,trivial⟩;exact (show okL (aR_ d_ [m0,m1,m2,m3,m4,m5,m6,m7,m8,m9,m10,m11,m12,m13,m14,m15,m16,m17,m18,m19,m20]++[.bool (!decide (x.i=0)),.int .i64 y.i])=true from kS_.okL_join (kS_ okV _) rfl);intro ws hws;obtain ⟨a,b,c,e,_⟩:=xW_ m18.i (!decide (x.i=0)) y.i (BA_ hm);have hws:ws=aR_ d_ (tp_ m17.i m18.i (!decide (x.i=0)) y.i):=hws;rw [e]at hws;subst hws;exact yZ_ (x:=[m0,m1,m2,m3,m4,m5,m6,m7,m8,m9,m10,m11,m12,m13,m14,m15,a,b,c,m19,m20]) rfl (by show wS_ _ 16 (tp_ m17.i m18.i (!decide (x.i=0)) y.i)=_;rw [e];rfl)
theorem DV_ {mem:List FV} (hm:MemOk mem) (now:Int) {l:List FV} (hl:l.length=1\/l.length=2):
  CF Tryz.prog 61 ft61 [c_ mem,.int .i64 11,.int .i64 19,c_ l,.int .i64 now] (R61 (n_ now 11 mem (decide ((l.headD FV.z).i≠0)) (l.tail.headD FV.z).i)):=by
 have hc:=D0_ hm (decide ((l.headD FV.z).i≠0)) (l.tail.headD FV.z).i now;have hd:=D2_ hm (decide ((l.headD FV.z).i≠0)) (l.tail.headD FV.z).i;obtain ⟨x,y,r,e1,e2,e3⟩:=xw_ hl;rw [e2,e3]at hc hd⊢;obtain ⟨m0,m1,m2,m3,m4,m5,m6,m7,m8,m9,m10,m11,m12,m13,m14,m15,m16,m17,m18,m19,m20,rfl⟩:=U_ hm.len;have hop:=pC_ (l:=[m0,m1,m2,m3,m4,m5,m6,m7,m8,m9,m10,m11,m12,m13,m14,m15,m16,m17,m18,m19,m20]) rfl;refine vg_ (c:=Ds_) (ex:=[]) (args:=wL_ 11 19) (H:=heap61) (n:=300) (t:=CI_) mo ov rfl (λY=>vC_ _) rfl (λB pr E w us h _ hr hc=>x2_ rfl rfl h hr hc) (by kernel_rfl) λY hf hg=>?_;unfold CI_;have ha:=wT_ l FV.z (by omega);rw [e1]at ha;refine vv_ ha (aM_ _) (vf_ hop rfl (kS_ okV _) ?_);refine vv_ rfl rfl (vv_ (r:=.int .i64 x.i) rfl rfl (vv_ (run_neq ..) rfl (vv_ rfl rfl (vv_ (r:=.int .i64 y.i) rfl rfl ?_))));have e4:decide (x.i≠0)= !decide (x.i=0):=by rw [decide_not]
 rw [e4]at hc hd⊢;refine uv_ hc ?_ ⟨?_,trivial⟩;exact (show okL (aR_ d_ [m0,m1,m2,m3,m4,m5,m6,m7,m8,m9,m10,m11,m12,m13,m14,m15,m16,m17,m18,m19,m20]++[.bool (!decide (x.i=0)),.int .i64 y.i,.int .i64 now])=true from kS_.okL_join (kS_ okV _) rfl);intro ws hws;have hws:ws=aR_ d_ [m19,m20]:=hws;subst hws;refine vv_ rfl rfl (vv_ (r:=.int .i64 x.i) rfl rfl (vv_ (run_neq ..) rfl (vv_ rfl rfl (vv_ (r:=.int .i64 y.i) rfl rfl ?_))));refine uv_ hd ?_ ⟨?_,trivial⟩;exact (show okL (aR_ d_ [m0,m1,m2,m3,m4,m5,m6,m7,m8,m9,m10,m11,m12,m13,m14,m15,m16,m17,m18,m19,m20]++[.bool (!decide (x.i=0)),.int .i64 y.i])=true from kS_.okL_join (kS_ okV _) rfl);intro ws hws;obtain ⟨a,b,e,_⟩:=(⟨_,_,rfl,trivial⟩:∃a b,bs_ m20.i (!decide (x.i=0))=[a,b]/\True);have hws:ws=aR_ d_ (bs_ m20.i (!decide (x.i=0))):=hws;rw [e]at hws;subst hws;exact yZ_ (x:=[m0,m1,m2,m3,m4,m5,m6,m7,m8,m9,m10,m11,m12,m13,m14,m15,m16,m17,m18,a,b]) rfl (by show wS_ _ 19 (bs_ m20.i (!decide (x.i=0)))=_;rw [e];rfl)
theorem p61 {mem:List FV} (hm:MemOk mem) {now:Int} (hn: -9223372036854775808<=now/\now<=9223372036854775807) {kd ad:Int} {ks:List Int} (hb:Blk kd ad ks) {l:List FV} (hk:l.length=ks.length) (hv: -9223372036854775808<=(l.tail.headD FV.z).i/\(l.tail.headD FV.z).i<=9223372036854775807):
  CF Tryz.prog 61 ft61 [c_ mem,.int .i64 kd,.int .i64 ad,c_ l,.int .i64 now] (R61 (n_ now kd mem (decide ((l.headD FV.z).i≠0)) (l.tail.headD FV.z).i)):=by
 have hl:l.length=1\/l.length=2:=by rcases hb with ⟨_,_,rfl⟩|⟨_,_,rfl⟩|⟨_,_,rfl⟩<;>simp at hk<;>omega
 rcases hb with ⟨rfl,rfl,_⟩|⟨rfl,rfl,_⟩|⟨rfl,rfl,_⟩;exact DT_ hm hn hl hv;exact DU_ hm now hl;exact DV_ hm now hl
def Du_:VC:=⟨⟨[],[]⟩,[(130,[none])],[(10005,[⟨[],[],0,0,[⟨2,3,21,0,none⟩],[],[]⟩])],1,true,[(94,nm_),(115,w4_)]⟩
def zC_:VT:=.lt (.opn 21 3) [66] 112 (some 63)<|Cf 115 w4_ [112,113,114,115,116,117,118,119,120,121,122,123,124,125,126,127,128,129,130,131,132,133,134,135,136,137,138,139,140,141,142,143,144,145,146,147,148,149,150,151,152,153,154,155,156,157,158,159,160,161,162,163,164,165,166,167,168,169,170,171,172,173,174,111,93,105] 175 12<|Dn [102,103,.vsl 21 3 [112,113,114,115,116,117,118,119,120,121,122,123,124,125,126,127,128,129,130,131,132,133,134,135,136,137,138,139,140,141,142,143,144,145,146,147,241,242,243,244,245,246,247,248,249,250,251,252,160,161,162,163,164,165,166,167,168,169,170,171,172,173,174],104,105,106,107]
def CK_:VT:=It Qc [74,J 1] 78 (Cf 94 nm_ [64,65,66,67,68,69,70] 79 9<|Cf 94 nm_ [86,87,66,88,89,90,91] 95 9<|Li Q8 [109,J 0] 111 zC_)<|Cf 94 nm_ [64,65,66,67,68,69,70] 79 9<|Li Q8 [93,J 0] 95<|.lt Z4 [66] 96 (some 63)<|Cf 115 w4_ [96,97,98,99,100,101,102,103,104,105,106,107,108,109,110,111,112,113,114,115,116,117,118,119,120,121,122,123,124,125,126,127,128,129,130,131,132,133,134,135,136,137,138,139,140,141,142,143,144,145,146,147,148,149,150,151,152,153,154,155,156,157,158,95,J 0,89] 159 12<|Dn [86,87,.vsl 21 3 [96,97,98,99,100,101,102,103,104,105,106,107,108,109,110,111,112,113,114,115,116,117,118,119,120,121,122,123,124,125,126,127,128,129,130,131,225,226,227,228,229,230,231,232,233,234,235,236,144,145,146,147,148,149,150,151,152,153,154,155,156,157,158],88,89,90,91]
def Dv_:VC:=⟨⟨[],[]⟩,[(130,[none])],[(10005,[⟨[],[],0,0,[⟨2,3,21,0,none⟩],[],[]⟩])],1,true,[(94,nm_),(116,w2_)]⟩
def zD_:VT:=.lt (.opn 21 3) [66] 112 (some 63)<|Cf 116 w2_ [112,113,114,115,116,117,118,119,120,121,122,123,124,125,126,127,128,129,130,131,132,133,134,135,136,137,138,139,140,141,142,143,144,145,146,147,148,149,150,151,152,153,154,155,156,157,158,159,160,161,162,163,164,165,166,167,168,169,170,171,172,173,174,111,93] 175 9<|Dn [102,103,.vsl 21 3 [112,113,114,115,116,117,118,119,120,121,122,123,124,125,126,127,128,129,130,131,132,133,134,135,136,137,138,139,140,141,142,143,144,145,146,147,148,149,150,151,152,153,154,155,156,157,158,159,240,241,242,243,244,245,246,247,248,169,170,171,172,173,174],104,105,106,107]
def CL_:VT:=It Qc [74,J 1] 78 (Cf 94 nm_ [64,65,66,67,68,69,70] 79 9<|Cf 94 nm_ [86,87,66,88,89,90,91] 95 9<|Li Q8 [109,J 0] 111 zD_)<|Cf 94 nm_ [64,65,66,67,68,69,70] 79 9<|Li Q8 [93,J 0] 95<|.lt Z4 [66] 96 (some 63)<|Cf 116 w2_ [96,97,98,99,100,101,102,103,104,105,106,107,108,109,110,111,112,113,114,115,116,117,118,119,120,121,122,123,124,125,126,127,128,129,130,131,132,133,134,135,136,137,138,139,140,141,142,143,144,145,146,147,148,149,150,151,152,153,154,155,156,157,158,95,J 0] 159 9<|Dn [86,87,.vsl 21 3 [96,97,98,99,100,101,102,103,104,105,106,107,108,109,110,111,112,113,114,115,116,117,118,119,120,121,122,123,124,125,126,127,128,129,130,131,132,133,134,135,136,137,138,139,140,141,142,143,224,225,226,227,228,229,230,231,232,153,154,155,156,157,158],88,89,90,91]
def Dw_:VC:=⟨⟨[],[]⟩,[(130,[none])],[(10005,[⟨[],[],0,0,[⟨2,3,21,0,none⟩],[],[]⟩])],1,true,[(94,nm_),(116,w3_)]⟩
def zE_:VT:=.lt (.opn 21 3) [66] 96 (some 63)<|Cf 116 w3_ [96,97,98,99,100,101,102,103,104,105,106,107,108,109,110,111,112,113,114,115,116,117,118,119,120,121,122,123,124,125,126,127,128,129,130,131,132,133,134,135,136,137,138,139,140,141,142,143,144,145,146,147,148,149,150,151,152,153,154,155,156,157,158,95,J 0] 159 6<|Dn [86,87,.vsl 21 3 [96,97,98,99,100,101,102,103,104,105,106,107,108,109,110,111,112,113,114,115,116,117,118,119,120,121,122,123,124,125,126,127,128,129,130,131,132,133,134,135,136,137,138,139,140,141,142,143,144,145,146,147,148,149,150,151,152,224,225,226,227,228,229],88,89,90,91]
def CM_:VT:=It Qc [74,J 1] 78 (Cf 94 nm_ [64,65,66,67,68,69,70] 79 9<|Cf 94 nm_ [86,87,66,88,89,90,91] 95 9<|Li Q8 [109,J 0] 111<|.lt Z4 [66] 112 (some 63)<|Cf 116 w3_ [112,113,114,115,116,117,118,119,120,121,122,123,124,125,126,127,128,129,130,131,132,133,134,135,136,137,138,139,140,141,142,143,144,145,146,147,148,149,150,151,152,153,154,155,156,157,158,159,160,161,162,163,164,165,166,167,168,169,170,171,172,173,174,111,93] 175 6<|Dn [102,103,.vsl 21 3 [112,113,114,115,116,117,118,119,120,121,122,123,124,125,126,127,128,129,130,131,132,133,134,135,136,137,138,139,140,141,142,143,144,145,146,147,148,149,150,151,152,153,154,155,156,157,158,159,160,161,162,163,164,165,166,167,168,240,241,242,243,244,245],104,105,106,107])<|Cf 94 nm_ [64,65,66,67,68,69,70] 79 9<|Li Q8 [93,J 0] 95 zE_
theorem AI_ (n z:Nat) (cs:List AV):(XOp.bin .eql 31 false true).run Tryz.prog [.vsl n z cs,.nsl]=some (.bool false):=rfl
theorem eqNilN:(XOp.bin .eql 31 false true).run Tryz.prog [.nsl,.nsl]=some (.bool true):=by kernel_rfl
def R41 (l:List FV):Nat->List AV->Prop:=λ_ ws=>∃s,St l s/\ws=[s]
theorem p41 {l:List FV} {x:AV} (h:St l x) (hl:l.length<=1000):CF Tryz.prog 41 ft41 [x] (R41 l):=by refine vh_ (c:=c41) (n:=300) (t:=t41) mo ov rfl (λY _=>vC_ _) (by kernel_rfl) λY hf hg=>?_;unfold t41;rcases h with rfl|⟨rfl,rfl⟩;obtain ⟨r,h1,h2⟩:=SlV.app (P:=Tryz.prog) (bytes:=24) us_ (by decide) (by decide) (SlV.v []) (SlV.v l) (by simp;omega);rw [List.nil_append]at h2;exact vv_ (AI_ _ _ _) rfl (ve_ (t:=false) rfl (λh=>by cases h) (λ_=>vv_ h1 (St.okC h2) (VOK_fin (by show okL [r]=true;simp only [okL,St.okC h2]) ⟨r,h2,rfl⟩)));exact vv_ eqNilN rfl (ve_ (t:=true) rfl (λ_=>VOK_fin rfl ⟨.nsl,.inr ⟨rfl,rfl⟩,rfl⟩) (λh=>by cases h))
def toM (m:MS) (st mem:List FV):MS:=⟨m.pc,st,mem,m.used,m.now,m.over,m.err⟩
def R95 (m:MS) (st mem:List FV):Nat->List AV->Prop:=λ_ ws=>∃s,St st s/\ws=KR (toM m st mem) s
theorem x3_ {m:MS} {s:AV} {i:GI} {B:World} {pr:Nat->Prop} {E:Env} {w:World} {us:List Value} (h:∀(j:Nat) (a:AV),(KR m s++tS_ i)[j]? =some a->E.sy (64+j)=some a)
  (hr:Rel B pr E (w1_.ent.heap 64) w) (hc:ConL E (bq_ 64 (cm_ w1_.ent.slots)) us):Rel B pr E heap95 w/\ConL E (xn_ i.kd i.ad) us:=by
 refine ⟨hr,?_⟩;have e:bq_ 64 (cm_ w1_.ent.slots)=[.ptr 0 0,.agg [.sym 71,.sym 72,.sym 73,.sym 74,.sym 75,.sym 76,.sym 77]]:=by kernel_rfl
 rw [e]at hc;simp only [ConL]at hc;obtain ⟨v,r,h1,h2,v2,r2,h3,h4,h5⟩:=hc;simp only [Con]at h4;obtain ⟨vs,h6,h7⟩:=h4;show ConL E [.ptr 0 0,.agg [.sym 71,.int .i64 i.kd,.int .i64 i.ad,.sym 74,.sym 75,.sym 76,.sym 77]] us;simp only [ConL];refine ⟨v,r,h1,h2,v2,r2,h3,?_,h5⟩;simp only [Con];exact ⟨vs,h6,mZ_ (a:=.sym 73) (λv hv=>uA_ (h 9 _ rfl) hv) 2 [.sym 71,.int .i64 i.kd,.sym 73,.sym 74,.sym 75,.sym 76,.sym 77] _ rfl (mZ_ (a:=.sym 72) (λv hv=>uA_ (h 8 _ rfl) hv) 1 [.sym 71,.sym 72,.sym 73,.sym 74,.sym 75,.sym 76,.sym 77] _ rfl h7)⟩
theorem D9_ {mem:List FV} (hm:MemOk mem) {pc used now err:Int} {over:Bool} {mst st:List FV} {s:AV} (hs:St st s) (hn: -9223372036854775808<=now/\now<=9223372036854775807) (inn:Bool) {v:Int} (hv: -9223372036854775808<=v/\v<=9223372036854775807) {Y:Sy} {L:List (Nat->List AV->Prop)}
  (h66:Y.v 66=some (c_ mem)) (hk:den Y.v (.sym 102)=.int .i64 pc/\den Y.v (.sym 103)=s/\den Y.v (.sym 104)=.int .i64 used/\den Y.v (.sym 105)=.int .i64 now/\den Y.v (.sym 106)=.bool over/\den Y.v (.sym 107)=.int .i64 err) (g0:den Y.v (.sym 111)=.bool inn) (g1:den Y.v (.sym 93)=.int .i64 v):VOK Tryz.prog (QF (R95 ⟨pc,mst,mem,used,now,over,err⟩ st (n_ now 6 mem inn v))) L Y zC_:=by
 obtain ⟨k0,k1,k2,k3,k4,k5⟩:=hk;have hc:=B4_ hm inn hv hn;obtain ⟨m0,m1,m2,m3,m4,m5,m6,m7,m8,m9,m10,m11,m12,m13,m14,m15,m16,m17,m18,m19,m20,rfl⟩:=U_ hm.len;have hop:=pC_ (l:=[m0,m1,m2,m3,m4,m5,m6,m7,m8,m9,m10,m11,m12,m13,m14,m15,m16,m17,m18,m19,m20]) rfl;unfold zC_;refine vf_ (cs:=aR_ d_ [m0,m1,m2,m3,m4,m5,m6,m7,m8,m9,m10,m11,m12,m13,m14,m15,m16,m17,m18,m19,m20]) (show (XOp.opn 21 3).run Tryz.prog (ab_ Y.v [.sym 66])=_ from by rw [show ab_ Y.v [.sym 66]=[c_ [m0,m1,m2,m3,m4,m5,m6,m7,m8,m9,m10,m11,m12,m13,m14,m15,m16,m17,m18,m19,m20]] from by simp only [ab_,den,h66]];exact hop) rfl (kS_ okV _) ?_;have hd:ab_ (Y.puts 112 (aR_ d_ [m0,m1,m2,m3,m4,m5,m6,m7,m8,m9,m10,m11,m12,m13,m14,m15,m16,m17,m18,m19,m20])).v (ah_ 112 63++[.sym 111,.sym 93,.sym 105])=aR_ d_ [m0,m1,m2,m3,m4,m5,m6,m7,m8,m9,m10,m11,m12,m13,m14,m15,m16,m17,m18,m19,m20]++[.bool inn,.int .i64 v,.int .i64 now]:=by rw [dq_];refine congr (congrArg _ rfl) ?_;show [den Y.v (.sym 111),den Y.v (.sym 93),den Y.v (.sym 105)]=_;rw [g0,g1,k3]
 refine uv_ (show CF Tryz.prog 115 w4_ (ab_ (Y.puts 112 (aR_ d_ [m0,m1,m2,m3,m4,m5,m6,m7,m8,m9,m10,m11,m12,m13,m14,m15,m16,m17,m18,m19,m20])).v (ah_ 112 63++[.sym 111,.sym 93,.sym 105])) _ from by rw [hd];exact hc) (show okL (ab_ (Y.puts 112 (aR_ d_ [m0,m1,m2,m3,m4,m5,m6,m7,m8,m9,m10,m11,m12,m13,m14,m15,m16,m17,m18,m19,m20])).v (ah_ 112 63++[.sym 111,.sym 93,.sym 105]))=true from by rw [hd];exact kS_.okL_join (kS_ okV _) rfl) ⟨?_,trivial⟩;intro ws hws;obtain ⟨x1,x2,x3,x4,e,_⟩:=x6_ m14.i m15.i inn (v:=v) (now:=now) hv.2 hn (((MemOk.of.1 hm).2.2.2.2.2.2.2.2.2.2.2.2.2.2.2.2.1).1.i64);have hws:ws=aR_ d_ (uD_ m14.i m15.i inn v now):=hws;rw [e]at hws;subst hws;have hbk:n_ now 6 [m0,m1,m2,m3,m4,m5,m6,m7,m8,m9,m10,m11,m12,m13,m14,m15,m16,m17,m18,m19,m20] inn v=[m0,m1,m2,m3,m4,m5,m6,m7,m8,m9,m10,m11,x1,x2,x3,x4,m16,m17,m18,m19,m20]:=by show wS_ _ 12 (uD_ m14.i m15.i inn v now)=_;rw [e];rfl
 rw [hbk];refine VOK_fin (j:=0) (hv:=.sym 102::_) ?_ ?_;show okL [den Y.v (.sym 102),den Y.v (.sym 103),c_ [m0,m1,m2,m3,m4,m5,m6,m7,m8,m9,m10,m11,x1,x2,x3,x4,m16,m17,m18,m19,m20],den Y.v (.sym 104),den Y.v (.sym 105),den Y.v (.sym 106),den Y.v (.sym 107)]=true;rw [k0,k1,k2,k3,k4,k5];exact C_ ⟨pc,st,[m0,m1,m2,m3,m4,m5,m6,m7,m8,m9,m10,m11,x1,x2,x3,x4,m16,m17,m18,m19,m20],used,now,over,err⟩ (St.okC hs);refine ⟨s,hs,?_⟩;show [den Y.v (.sym 102),den Y.v (.sym 103),c_ [m0,m1,m2,m3,m4,m5,m6,m7,m8,m9,m10,m11,x1,x2,x3,x4,m16,m17,m18,m19,m20],den Y.v (.sym 104),den Y.v (.sym 105),den Y.v (.sym 106),den Y.v (.sym 107)]=_;rw [k0,k1,k2,k3,k4,k5];rfl
theorem Ea_ {mem:List FV} (hm:MemOk mem) {pc used now err:Int} {over:Bool} {mst st:List FV} {s:AV} (hs:St st s) (hn: -9223372036854775808<=now/\now<=9223372036854775807) (inn:Bool) {v:Int} (hv: -9223372036854775808<=v/\v<=9223372036854775807) {Y:Sy} {L:List (Nat->List AV->Prop)}
  (h66:Y.v 66=some (c_ mem)) (hk:den Y.v (.sym 102)=.int .i64 pc/\den Y.v (.sym 103)=s/\den Y.v (.sym 104)=.int .i64 used/\den Y.v (.sym 105)=.int .i64 now/\den Y.v (.sym 106)=.bool over/\den Y.v (.sym 107)=.int .i64 err) (g0:den Y.v (.sym 111)=.bool inn) (g1:den Y.v (.sym 93)=.int .i64 v):VOK Tryz.prog (QF (R95 ⟨pc,mst,mem,used,now,over,err⟩ st (n_ now 9 mem inn v))) L Y zD_:=by
 obtain ⟨k0,k1,k2,k3,k4,k5⟩:=hk;have hc:=B5_ hm inn v;obtain ⟨m0,m1,m2,m3,m4,m5,m6,m7,m8,m9,m10,m11,m12,m13,m14,m15,m16,m17,m18,m19,m20,rfl⟩:=U_ hm.len;have hop:=pC_ (l:=[m0,m1,m2,m3,m4,m5,m6,m7,m8,m9,m10,m11,m12,m13,m14,m15,m16,m17,m18,m19,m20]) rfl;unfold zD_;refine vf_ (cs:=aR_ d_ [m0,m1,m2,m3,m4,m5,m6,m7,m8,m9,m10,m11,m12,m13,m14,m15,m16,m17,m18,m19,m20]) (show (XOp.opn 21 3).run Tryz.prog (ab_ Y.v [.sym 66])=_ from by rw [show ab_ Y.v [.sym 66]=[c_ [m0,m1,m2,m3,m4,m5,m6,m7,m8,m9,m10,m11,m12,m13,m14,m15,m16,m17,m18,m19,m20]] from by simp only [ab_,den,h66]];exact hop) rfl (kS_ okV _) ?_;have hd:ab_ (Y.puts 112 (aR_ d_ [m0,m1,m2,m3,m4,m5,m6,m7,m8,m9,m10,m11,m12,m13,m14,m15,m16,m17,m18,m19,m20])).v (ah_ 112 63++[.sym 111,.sym 93])=aR_ d_ [m0,m1,m2,m3,m4,m5,m6,m7,m8,m9,m10,m11,m12,m13,m14,m15,m16,m17,m18,m19,m20]++[.bool inn,.int .i64 v]:=by rw [dq_];refine congr (congrArg _ rfl) ?_;show [den Y.v (.sym 111),den Y.v (.sym 93)]=_;rw [g0,g1]
 refine uv_ (show CF Tryz.prog 116 w2_ (ab_ (Y.puts 112 (aR_ d_ [m0,m1,m2,m3,m4,m5,m6,m7,m8,m9,m10,m11,m12,m13,m14,m15,m16,m17,m18,m19,m20])).v (ah_ 112 63++[.sym 111,.sym 93])) _ from by rw [hd];exact hc) (show okL (ab_ (Y.puts 112 (aR_ d_ [m0,m1,m2,m3,m4,m5,m6,m7,m8,m9,m10,m11,m12,m13,m14,m15,m16,m17,m18,m19,m20])).v (ah_ 112 63++[.sym 111,.sym 93]))=true from by rw [hd];exact kS_.okL_join (kS_ okV _) rfl) ⟨?_,trivial⟩;intro ws hws;obtain ⟨x1,x2,x3,e,_⟩:=xW_ m18.i inn v (BA_ hm);have hws:ws=aR_ d_ (tp_ m17.i m18.i inn v):=hws;rw [e]at hws;subst hws;have hbk:n_ now 9 [m0,m1,m2,m3,m4,m5,m6,m7,m8,m9,m10,m11,m12,m13,m14,m15,m16,m17,m18,m19,m20] inn v=[m0,m1,m2,m3,m4,m5,m6,m7,m8,m9,m10,m11,m12,m13,m14,m15,x1,x2,x3,m19,m20]:=by show wS_ _ 16 (tp_ m17.i m18.i inn v)=_;rw [e];rfl
 rw [hbk];refine VOK_fin (j:=0) (hv:=.sym 102::_) ?_ ?_;show okL [den Y.v (.sym 102),den Y.v (.sym 103),c_ [m0,m1,m2,m3,m4,m5,m6,m7,m8,m9,m10,m11,m12,m13,m14,m15,x1,x2,x3,m19,m20],den Y.v (.sym 104),den Y.v (.sym 105),den Y.v (.sym 106),den Y.v (.sym 107)]=true;rw [k0,k1,k2,k3,k4,k5];exact C_ ⟨pc,st,[m0,m1,m2,m3,m4,m5,m6,m7,m8,m9,m10,m11,m12,m13,m14,m15,x1,x2,x3,m19,m20],used,now,over,err⟩ (St.okC hs);refine ⟨s,hs,?_⟩;show [den Y.v (.sym 102),den Y.v (.sym 103),c_ [m0,m1,m2,m3,m4,m5,m6,m7,m8,m9,m10,m11,m12,m13,m14,m15,x1,x2,x3,m19,m20],den Y.v (.sym 104),den Y.v (.sym 105),den Y.v (.sym 106),den Y.v (.sym 107)]=_;rw [k0,k1,k2,k3,k4,k5];rfl
theorem Eb_ {mem:List FV} (hm:MemOk mem) {pc used now err:Int} {over:Bool} {mst st:List FV} {s:AV} (hs:St st s) (hn: -9223372036854775808<=now/\now<=9223372036854775807) (inn:Bool) {v:Int} (hv: -9223372036854775808<=v/\v<=9223372036854775807) {Y:Sy} {L:List (Nat->List AV->Prop)}
  (h66:Y.v 66=some (c_ mem)) (hk:den Y.v (.sym 86)=.int .i64 pc/\den Y.v (.sym 87)=s/\den Y.v (.sym 88)=.int .i64 used/\den Y.v (.sym 89)=.int .i64 now/\den Y.v (.sym 90)=.bool over/\den Y.v (.sym 91)=.int .i64 err) (g0:den Y.v (.sym 95)=.bool inn):VOK Tryz.prog (QF (R95 ⟨pc,mst,mem,used,now,over,err⟩ st (n_ now 11 mem inn 0))) L Y zE_:=by
 obtain ⟨k0,k1,k2,k3,k4,k5⟩:=hk;have hc:=B6_ hm inn 0;obtain ⟨m0,m1,m2,m3,m4,m5,m6,m7,m8,m9,m10,m11,m12,m13,m14,m15,m16,m17,m18,m19,m20,rfl⟩:=U_ hm.len;have hop:=pC_ (l:=[m0,m1,m2,m3,m4,m5,m6,m7,m8,m9,m10,m11,m12,m13,m14,m15,m16,m17,m18,m19,m20]) rfl;unfold zE_;refine vf_ (cs:=aR_ d_ [m0,m1,m2,m3,m4,m5,m6,m7,m8,m9,m10,m11,m12,m13,m14,m15,m16,m17,m18,m19,m20]) (show (XOp.opn 21 3).run Tryz.prog (ab_ Y.v [.sym 66])=_ from by rw [show ab_ Y.v [.sym 66]=[c_ [m0,m1,m2,m3,m4,m5,m6,m7,m8,m9,m10,m11,m12,m13,m14,m15,m16,m17,m18,m19,m20]] from by simp only [ab_,den,h66]];exact hop) rfl (kS_ okV _) ?_;have hd:ab_ (Y.puts 96 (aR_ d_ [m0,m1,m2,m3,m4,m5,m6,m7,m8,m9,m10,m11,m12,m13,m14,m15,m16,m17,m18,m19,m20])).v (ah_ 96 63++[.sym 95,.int .i64 0])=aR_ d_ [m0,m1,m2,m3,m4,m5,m6,m7,m8,m9,m10,m11,m12,m13,m14,m15,m16,m17,m18,m19,m20]++[.bool inn,.int .i64 0]:=by rw [dq_];refine congr (congrArg _ rfl) ?_;show [den Y.v (.sym 95),.int .i64 0]=_;rw [g0]
 refine uv_ (show CF Tryz.prog 116 w3_ (ab_ (Y.puts 96 (aR_ d_ [m0,m1,m2,m3,m4,m5,m6,m7,m8,m9,m10,m11,m12,m13,m14,m15,m16,m17,m18,m19,m20])).v (ah_ 96 63++[.sym 95,.int .i64 0])) _ from by rw [hd];exact hc) (show okL (ab_ (Y.puts 96 (aR_ d_ [m0,m1,m2,m3,m4,m5,m6,m7,m8,m9,m10,m11,m12,m13,m14,m15,m16,m17,m18,m19,m20])).v (ah_ 96 63++[.sym 95,.int .i64 0]))=true from by rw [hd];exact kS_.okL_join (kS_ okV _) rfl) ⟨?_,trivial⟩;intro ws hws;obtain ⟨x1,x2,e,_⟩:=(⟨_,_,rfl,trivial⟩:∃a b,bs_ m20.i inn=[a,b]/\True);have hws:ws=aR_ d_ (bs_ m20.i inn):=hws;rw [e]at hws;subst hws;have hbk:n_ now 11 [m0,m1,m2,m3,m4,m5,m6,m7,m8,m9,m10,m11,m12,m13,m14,m15,m16,m17,m18,m19,m20] inn 0=[m0,m1,m2,m3,m4,m5,m6,m7,m8,m9,m10,m11,m12,m13,m14,m15,m16,m17,m18,x1,x2]:=by show wS_ _ 19 (bs_ m20.i inn)=_;rw [e];rfl
 rw [hbk];refine VOK_fin (j:=0) (hv:=.sym 86::_) ?_ ?_;show okL [den Y.v (.sym 86),den Y.v (.sym 87),c_ [m0,m1,m2,m3,m4,m5,m6,m7,m8,m9,m10,m11,m12,m13,m14,m15,m16,m17,m18,x1,x2],den Y.v (.sym 88),den Y.v (.sym 89),den Y.v (.sym 90),den Y.v (.sym 91)]=true;rw [k0,k1,k2,k3,k4,k5];exact C_ ⟨pc,st,[m0,m1,m2,m3,m4,m5,m6,m7,m8,m9,m10,m11,m12,m13,m14,m15,m16,m17,m18,x1,x2],used,now,over,err⟩ (St.okC hs);refine ⟨s,hs,?_⟩;show [den Y.v (.sym 86),den Y.v (.sym 87),c_ [m0,m1,m2,m3,m4,m5,m6,m7,m8,m9,m10,m11,m12,m13,m14,m15,m16,m17,m18,x1,x2],den Y.v (.sym 88),den Y.v (.sym 89),den Y.v (.sym 90),den Y.v (.sym 91)]=_;rw [k0,k1,k2,k3,k4,k5];rfl
theorem p95 {m:MS} {s:AV} {st inn:List FV} {i:GI} (hs:St (st++inn) s) (hl:st.length<=90) (hm:MemOk m.mem) (hn: -9223372036854775808<=m.now/\m.now<=9223372036854775807) (hb:Blk i.kd i.ad (inn.map FV.k)) (hi:i.n=(inn.length:Int)) (tv:∀v∈inn,TV v):
  CF Tryz.prog 95 w1_ (KR m s++tS_ i) (R95 m st (n_ m.now i.kd m.mem (decide ((inn.headD FV.z).i≠0)) (inn.tail.headD FV.z).i)):=by
 obtain ⟨op,kd,ad,n,vk,vi,vf⟩:=i;simp only at hb hi;obtain ⟨pc,mst,mem,used,now,over,err⟩:=m;have hm:MemOk mem:=hm;have hn: -9223372036854775808<=now/\now<=9223372036854775807:=hn;rcases hb with ⟨rfl,rfl,hk⟩|⟨rfl,rfl,hk⟩|⟨rfl,rfl,hk⟩
 .obtain ⟨a,b,rfl,ka,kb⟩:=rI_ hk;have hn2:n=2:=hi;have tb:=(tv b (List.mem_cons_of_mem _ List.mem_cons_self)).1.i64;have hs':St ((st++[a])++[b]) s:=(by rw [List.append_assoc];exact hs);show CF Tryz.prog 95 w1_ _ (R95 _ st (n_ now 6 mem (decide (¬a.i=0)) b.i));rw [decide_not];refine vg_ (c:=Du_) (ex:=[]) (args:=xn_ 6 12) (H:=heap95) (n:=300) (t:=CK_) mo ov rfl (λY=>vC_ _) rfl (λB pr E w us h _ hr hc=>x3_ (i:=⟨op,6,12,n,vk,vi,vf⟩) h hr hc) (by kernel_rfl) λY hf hg=>?_;unfold CK_
  (refine a_ rfl rfl ?_ ?_<;>intro h<;>simp only [nc]at h<;>try omega)
  refine uv_ (p94 (m:=⟨pc,mst,mem,used,now,over,err⟩) hs' (by simp;omega)) (show okL (KR ⟨pc,mst,mem,used,now,over,err⟩ s)=true from C_ _ (St.okC hs)) ⟨?_,trivial⟩;rintro ws ⟨s0,hs0,rfl⟩;refine uv_ (p94 (m:=⟨pc,mst,mem,used,now,over,err⟩) hs0 (by omega)) (show okL (KR ⟨pc,mst,mem,used,now,over,err⟩ s0)=true from C_ _ (St.okC hs0)) ⟨?_,trivial⟩;rintro ws ⟨s1,hs1,rfl⟩;exact vv_ (run_neq ..) rfl (D9_ hm hs1 hn (!decide (a.i=0)) tb rfl ⟨rfl,rfl,rfl,rfl,rfl,rfl⟩ rfl rfl)
 .obtain ⟨a,b,rfl,ka,kb⟩:=rI_ hk;have hn2:n=2:=hi;have tb:=(tv b (List.mem_cons_of_mem _ List.mem_cons_self)).1.i64;have hs':St ((st++[a])++[b]) s:=(by rw [List.append_assoc];exact hs);show CF Tryz.prog 95 w1_ _ (R95 _ st (n_ now 9 mem (decide (¬a.i=0)) b.i));rw [decide_not];refine vg_ (c:=Dv_) (ex:=[]) (args:=xn_ 9 16) (H:=heap95) (n:=300) (t:=CL_) mo ov rfl (λY=>vC_ _) rfl (λB pr E w us h _ hr hc=>x3_ (i:=⟨op,9,16,n,vk,vi,vf⟩) h hr hc) (by kernel_rfl) λY hf hg=>?_;unfold CL_
  (refine a_ rfl rfl ?_ ?_<;>intro h<;>simp only [nc]at h<;>try omega)
  refine uv_ (p94 (m:=⟨pc,mst,mem,used,now,over,err⟩) hs' (by simp;omega)) (show okL (KR ⟨pc,mst,mem,used,now,over,err⟩ s)=true from C_ _ (St.okC hs)) ⟨?_,trivial⟩;rintro ws ⟨s0,hs0,rfl⟩;refine uv_ (p94 (m:=⟨pc,mst,mem,used,now,over,err⟩) hs0 (by omega)) (show okL (KR ⟨pc,mst,mem,used,now,over,err⟩ s0)=true from C_ _ (St.okC hs0)) ⟨?_,trivial⟩;rintro ws ⟨s1,hs1,rfl⟩;exact vv_ (run_neq ..) rfl (Ea_ hm hs1 hn (!decide (a.i=0)) tb rfl ⟨rfl,rfl,rfl,rfl,rfl,rfl⟩ rfl rfl)
 .obtain ⟨a,rfl,ka⟩:=I_ hk;have hn2:n=1:=hi;show CF Tryz.prog 95 w1_ _ (R95 _ st (n_ now 11 mem (decide (¬a.i=0)) 0));rw [decide_not];refine vg_ (c:=Dw_) (ex:=[]) (args:=xn_ 11 19) (H:=heap95) (n:=300) (t:=CM_) mo ov rfl (λY=>vC_ _) rfl (λB pr E w us h _ hr hc=>x3_ (i:=⟨op,11,19,n,vk,vi,vf⟩) h hr hc) (by kernel_rfl) λY hf hg=>?_;unfold CM_
  (refine a_ rfl rfl ?_ ?_<;>intro h<;>simp only [nc]at h<;>try omega)
  refine uv_ (p94 (m:=⟨pc,mst,mem,used,now,over,err⟩) hs (by omega)) (show okL (KR ⟨pc,mst,mem,used,now,over,err⟩ s)=true from C_ _ (St.okC hs)) ⟨?_,trivial⟩;rintro ws ⟨s1,hs1,rfl⟩;exact vv_ (run_neq ..) rfl (Eb_ hm hs1 hn (!decide (a.i=0)) (v:=0) (by decide) rfl ⟨rfl,rfl,rfl,rfl,rfl,rfl⟩ rfl)
def R59 (us:Int) (m q:MS):Nat->List AV->Prop:=λj ws=>
 (q.err=0/\j=0/\∃s,St q.st s/\ws=KR ⟨m.pc,q.st,q.mem,us,m.now,q.over,m.err⟩ s++[.int .i64 q.pc])\/(q.err≠0/\j=1/\ws=[.int .i64 q.err])
theorem Bn_ {Q:AV->Prop} {L:List (Nat->List AV->Prop)} {Y:Sy} {a:VT} (h:VOK Tryz.prog Q L Y a):VOK Tryz.prog Q L Y (.both a (.both a a)):=⟨h,h,h⟩
theorem xI_ {op kd ad n:Int} {a b:FV} {mem:List FV} (h3:op≠3) (h17:op≠17):wz_ mem op kd ad n a b=opX op a b:=yr_ h3 h17
theorem wF_ {i:GI} {m:MS} {rest inn:List FV} (h:i.op<=17):doI i m rest inn=(match v0_ i m.mem (inn.headD FV.z) (inn.getLastD FV.z)with
 | .error e=>vN_ m e
 | .ok v=>goM m (m.pc+1) (rest++[v]) m.mem):=by unfold doI;exact if_pos h
theorem vS_ {us:Int} {m q:MS} {s:AV} (he:q.err=0) (hs:St q.st s) {hv:List AV} {Y:Sy} {L:List (Nat->List AV->Prop)} (h:ab_ Y.v hv=KR ⟨m.pc,q.st,q.mem,us,m.now,q.over,m.err⟩ s++[.int .i64 q.pc]):VOK Tryz.prog (QF (R59 us m q)) L Y (.done (.tup (.int .i64 0::hv))):=
 VOK_fin (j:=0) (by rw [h];exact x1_ _ (St.okC hs) rfl) (.inl ⟨he,rfl,s,hs,h⟩)
theorem ye_ {us e:Int} {m q:MS} (hq:q.err=e) (he:e≠0) {hv:List AV} {Y:Sy} {L:List (Nat->List AV->Prop)} (h:ab_ Y.v hv=[.int .i64 e]):VOK Tryz.prog (QF (R59 us m q)) L Y (.done (.tup (.int .i64 1::hv))):=
 VOK_fin (j:=1) (by rw [h];rfl) (.inr ⟨by rw [hq];exact he,rfl,by rw [hq];exact h⟩)
def c59:VC:=⟨⟨[],[]⟩,[],[],1,true,[(92,E_),(93,zQ_),(94,nm_),(95,w1_),(96,AN_),(97,yE_)]⟩
def z7_:VT:=.callF 93 zQ_ [64,65,66,67,68,69,70,71,72,73,74,75,76,77] 81 (.cons 7 (Li Q1 [66,101] 102<|.lt Q9 [66,102] 103 (some 3)<|Cf 92 E_ [95,96,66,97,98,99,100,103,104,105] 106 6<|Li Q2 [116,J 1] 122<|Dn [116,117,66,118,119,120,121,122]) (.cons 1 (.done (.tup [J 1,95])) .nil))
def t59:VT:=Iq 71 1 78 (Cf 92 E_ [64,65,66,67,68,69,70,75,76,77] 79 6<|Li Q2 [89,J 1] 95<|Dn [89,90,66,91,92,93,94,95])<|Iq 71 2 79 (Li Q1 [66,73] 80<|.lt Q9 [66,80] 81 (some 3)<|Cf 92 E_ [64,65,66,67,68,69,70,81,82,83] 84 6<|Li Q2 [94,J 1] 100<|Dn [94,95,66,96,97,98,99,100])<|Iq 71 3 80 (.both z7_<|.both z7_ z7_)<|Iq 71 18 81 (Cf 94 nm_ [64,65,66,67,68,69,70] 82 9<|Li Q1 [66,73] 98<|Li Z3 [66,98,.agg [95,96,97]] 99<|Li Q2 [89,J 1] 100<|.chk (.same 66 99)<|Dn [89,90,99,91,92,93,94,100])<|Iq 71 19 82 (.callF 93 zQ_ [64,65,66,67,68,69,70,71,72,73,74,75,76,77] 83 (.cons 7 (Cf 94 nm_ [97,98,66,99,100,101,102] 104 9<|Li Q1 [66,103] 120<|Li Z3 [66,120,.agg [117,118,119]] 121<|Li Q2 [111,J 1] 122<|.chk (.same 66 121)<|Dn [111,112,121,113,114,115,116,122]) (.cons 1 (.done (.tup [J 1,97])) .nil)))<|Iq 71 20 83 (Dn [64,65,66,67,68,69,70,73])<|Iq 71 21 84 (Cf 94 nm_ [64,65,66,67,68,69,70] 85 9<|It Qt [99,J 0] 101 (Dn [92,93,66,94,95,96,97,73])<|Li Q2 [92,J 1] 102<|Dn [92,93,66,94,95,96,97,102])<|Iq 71 22 85 (Cf 95 w1_ [64,65,66,67,68,69,70,71,72,73,74,75,76,77] 86 7<|Li Q2 [100,J 1] 107<|Dn [100,101,102,103,104,105,106,107])<|Iq 71 23 86 (Dn [64,65,66,67,68,.bool true,70,64])<|Iq 71 17 87 (.callF 96 AN_ [64,65,66,67,68,69,70,71,72,73,74,75,76,77] 88 (.cons 6 (Li Q2 [102,J 1] 108<|Dn [102,103,66,104,105,106,107,108]) (.cons 1 (.done (.tup [J 1,102])) .nil)))<|.callF 97 yE_ [64,65,66,67,68,69,70,71,72,73,74,75,76,77] 88 (.cons 6 (Li Q2 [102,J 1] 108<|Dn [102,103,66,104,105,106,107,108]) (.cons 1 (.done (.tup [J 1,102])) .nil))
theorem wl_ {m:MS} {i:GI} {rest inn:List FV} {v:FV} (h17:i.op<=17) (ht:v0_ i m.mem (inn.headD FV.z) (inn.getLastD FV.z)=.ok v):doI i m rest inn=goM m (m.pc+1) (rest++[v]) m.mem:=by rw [wF_ h17,ht]
theorem xx_ {m:MS} {i:GI} {rest inn:List FV} {e:Int} (h17:i.op<=17) (ht:v0_ i m.mem (inn.headD FV.z) (inn.getLastD FV.z)=.error e):doI i m rest inn=vN_ m e:=by rw [wF_ h17,ht]
theorem v1_ {i:GI} {mem:List FV} {a b:FV} (h1:i.op≠1) (h2:i.op≠2):v0_ i mem a b=wz_ mem i.op i.kd i.ad i.n a b:=by unfold v0_;rw [if_neg h1,if_neg h2]
theorem BE_ {i:GI} {m:MS} {rest inn:List FV} (h:i.op=18):doI i m rest inn=goM m (m.pc+1) rest (m.mem.set i.ad.toNat (inn.headD FV.z)):=by unfold doI;rw [if_neg (by omega),if_pos h]
theorem AG_ {i:GI} {m:MS} {rest inn:List FV} (h:i.op=19):doI i m rest inn=if (inn.getLastD FV.z).i<0\/i.n<=(inn.getLastD FV.z).i then vN_ m 6 else goM m (m.pc+1) rest (m.mem.set (i.ad+(inn.getLastD FV.z).i).toNat (inn.headD FV.z)):=by unfold doI;rw [if_neg (by omega),if_neg (by omega),if_pos h]
theorem BF_ {i:GI} {m:MS} {rest inn:List FV} (h:i.op=20):doI i m rest inn=goM m i.ad rest m.mem:=by unfold doI;rw [if_neg (by omega),if_neg (by omega),if_neg (by omega),if_pos h]
theorem BG_ {i:GI} {m:MS} {rest inn:List FV} (h:i.op=21):doI i m rest inn=goM m (if (inn.headD FV.z).i=0 then i.ad else m.pc+1) rest m.mem:=by unfold doI;rw [if_neg (by omega),if_neg (by omega),if_neg (by omega),if_neg (by omega),if_pos h]
theorem BH_ {i:GI} {m:MS} {rest inn:List FV} (h:i.op=22):doI i m rest inn=goM m (m.pc+1) rest (n_ m.now i.kd m.mem (decide ((inn.headD FV.z).i≠0)) (inn.tail.headD FV.z).i):=by unfold doI;rw [if_neg (by omega),if_neg (by omega),if_neg (by omega),if_neg (by omega),if_neg (by omega),if_pos h]
theorem BI_ {i:GI} {m:MS} {rest inn:List FV} (h:i.op=23):doI i m rest inn=⟨m.pc,rest,m.mem,m.used+1,m.now,true,m.err⟩:=by unfold doI;rw [if_neg (by omega),if_neg (by omega),if_neg (by omega),if_neg (by omega),if_neg (by omega),if_neg (by omega)]
theorem xq_ {inn:List FV} (h:inn.map FV.k=[]):inn=[]:=List.map_eq_nil_iff.1 h
theorem v2_ {mem:List FV} {n:Nat} (h:n<mem.length):cell mem (n:Int)=mem[n]:=yc_ h
theorem AS_ {us:Int} {m:MS} {s:AV} {st:List FV} {v:FV} {q:MS} (hs:St st s) (hl:st.length<=100) (hpc:0<=m.pc/\m.pc<=1000000) (he:m.err=0) (hq:q=goM m (m.pc+1) (st++[v]) m.mem) {Y:Sy} {L:List (Nat->List AV->Prop)} {hv hw:List AV} {n k:Nat} {x:AV} {t:TypeId}
  (h:ab_ Y.v hv=KR ⟨m.pc,m.st,m.mem,us,m.now,m.over,m.err⟩ s++d_ v)
  (hx:∀s',den ((Y.puts n (ab_ Y.v hv)).puts (n+10) (KS ⟨m.pc,m.st,m.mem,us,m.now,m.over,m.err⟩ s')).v x=.int .i64 m.pc)
  (hw':∀s',ab_ (((Y.puts n (ab_ Y.v hv)).puts (n+10) (KS ⟨m.pc,m.st,m.mem,us,m.now,m.over,m.err⟩ s')).put k (.int .i64 (m.pc+1))).v hw=KR ⟨m.pc,st++[v],m.mem,us,m.now,m.over,m.err⟩ s'++[.int .i64 (m.pc+1)]):
  VOK Tryz.prog (QF (R59 us m q)) L Y (.callF 92 E_ hv n (.cons 6 (.lt (.bin .add t false true) [x,.int .i64 1] k none (.done (.tup (.int .i64 0::hw)))) .nil)):=by
 have hp:=p92 (m:=⟨m.pc,m.st,m.mem,us,m.now,m.over,m.err⟩) (v:=v) hs hl;rw [←h]at hp;refine uv_ hp (by rw [h];exact x1_ _ (St.okC hs) (okV v)) ⟨?_,trivial⟩;rintro ws ⟨s1,hs1,rfl⟩;subst hq;refine vv_ (r:=.int .i64 (m.pc+1)) ?_ rfl (vS_ (q:=goM m (m.pc+1) (st++[v]) m.mem) he hs1 (hw' s1));exact (congrArg (λz=>(XOp.bin .add t false true).run Tryz.prog [z,.int .i64 1]) (hx s1)).trans (g_ (by omega) (by omega))
theorem p59 {m:MS} {s:AV} {i:GI} {T:List (List Int)} {p:Nat} (us:Int) (hs:St m.st s) (he:m.err=0) (hpc:0<=m.pc/\m.pc<=1000000) (hn: -9223372036854775808<=m.now/\m.now<=9223372036854775807) (hT:TI T p i (m.st.map FV.k)) (tv:∀v∈m.st,TV v) (hm:MemOk m.mem):
  CF Tryz.prog 59 AL_ (KR ⟨m.pc,m.st,m.mem,us,m.now,m.over,m.err⟩ s++tS_ i) (R59 us m (doI i m (m.st.take (m.st.length-f_ i)) (m.st.drop (m.st.length-f_ i)))):=by
 obtain ⟨K0,ks,hK,hks,h40,hT⟩:=hT;obtain ⟨s1,s2⟩:=wU_ hK;have hst:m.st=m.st.take (m.st.length-f_ i)++m.st.drop (m.st.length-f_ i):=(List.take_append_drop _ _).symm;rw [hks]at s1 s2;have hl40:m.st.length<=40:=by rw [List.length_map]at h40;exact h40
 have hlr:(m.st.take (m.st.length-f_ i)).length<=40:=by rw [List.length_take];omega
 have v2:∀v∈m.st.drop (m.st.length-f_ i),TV v:=λv hv=>tv v (List.mem_of_mem_drop hv);have hlen:=hm.len;obtain ⟨pc,mst,mem,used,now,over,err⟩:=m;simp only at hs he hpc hn hst hl40 hlr v2 hlen hm s1 s2⊢;generalize mst.take (mst.length-f_ i)=rest at*;generalize mst.drop (mst.length-f_ i)=inn at*;subst hst he;clear hK h40 tv;obtain ⟨op,kd,ad,n,vk,vi,vf⟩:=i;simp only at hT;refine vh_ (c:=c59) (n:=300) (t:=t59) mo ov rfl (λY _=>vC_ _) (by kernel_rfl) λY hf hg=>?_;unfold t59;have okK:=λl (h:okL l=true)=>x1_ ⟨pc,rest++inn,mem,us,now,over,0⟩ (St.okC hs) (l:=l) h;have okG:=okK (tS_ ⟨op,kd,ad,n,vk,vi,vf⟩) rfl;have ok0:okL (KR ⟨pc,rest++inn,mem,us,now,over,0⟩ s)=true:=C_ _ (St.okC hs);rcases hT with ⟨k,hk,hT⟩|⟨hk,hT⟩|⟨h20,q,hq,hT⟩|h23
 .rcases hT with ⟨h1,h2,h3⟩|⟨h1,h2⟩|⟨h1,h2,h3,h4,h5⟩|⟨h1,h2,h3,h4,h5,h6⟩|⟨h1,h2,h3⟩
  .subst h1;have hk0:ks=[]:=List.length_eq_zero_iff.1 hks;obtain rfl:=xq_ (s2.trans hk0);rw [List.append_nil]at*;rw [wl_ (v:=⟨vk,vi,some vf⟩) (by show (1:Int)<=17;decide) rfl]
   (refine a_ rfl rfl ?_ ?_<;>intro h<;>simp only [nc]at h<;>try omega)
   exact AS_ (m:=⟨pc,rest,mem,used,now,over,0⟩) (v:=⟨vk,vi,some vf⟩) hs (by omega) hpc rfl rfl rfl (λs'=>rfl) (λs'=>rfl)
  .subst h1;have hk0:ks=[]:=List.length_eq_zero_iff.1 hks;obtain rfl:=xq_ (s2.trans hk0);rw [List.append_nil]at*;obtain ⟨c1,c2,c3⟩:=cells_k _ h2;simp only at c1 c2;obtain ⟨j,rfl⟩:∃j:Nat,ad=(j:Int):=⟨ad.toNat,by omega⟩;have hj:j<mem.length:=(by omega);rw [wl_ (v:=mem[j]) (by show (2:Int)<=17;decide) (by show Except.ok (cell mem (j:Int))=_;rw [v2_ hj])]
   (refine a_ rfl rfl ?_ ?_<;>intro h<;>simp only [nc]at h<;>try omega)
   (refine a_ rfl rfl ?_ ?_<;>intro h<;>simp only [nc]at h<;>try omega)
   refine vv_ (s_ mem hj) rfl (vf_ (rp_ mem hj) rfl (okV _) ?_);exact AS_ (m:=⟨pc,rest,mem,used,now,over,0⟩) (v:=mem[j]) hs (by omega) hpc rfl rfl rfl (λs'=>rfl) (λs'=>rfl)
  .subst h1 h2 h3;obtain ⟨x,rfl,hxk⟩:∃x,inn=[x]/\(x.k=2\/x.k=3):=by rcases h5 with h5|h5;obtain ⟨x,e,hx⟩:=I_ (s2.trans h5);exact ⟨x,e,.inl hx⟩;obtain ⟨x,e,hx⟩:=I_ (s2.trans h5);exact ⟨x,e,.inr hx⟩
   (refine a_ rfl rfl ?_ ?_<;>intro h<;>simp only [nc]at h<;>try omega)
   (refine a_ rfl rfl ?_ ?_<;>intro h<;>simp only [nc]at h<;>try omega)
   (refine a_ rfl rfl ?_ ?_<;>intro h<;>simp only [nc]at h<;>try omega)
   refine Bn_ ?_;unfold z7_;refine uv_ (p93 (m:=⟨pc,rest++[x],mem,us,now,over,0⟩) (i:=⟨3,kd,8,4,vk,vi,vf⟩) hs (by omega) rfl rfl) okG ⟨?_,?_,trivial⟩;rintro ws (⟨_,h0,_⟩|⟨hr,_,s3,hs3,rfl⟩);cases h0;have hr:¬(x.i<0\/4<=x.i):=hr;obtain ⟨j,hj0⟩:∃j:Nat,8+x.i=(j:Int):=⟨(8+x.i).toNat,by omega⟩;have hj:j<mem.length:=(by omega);rw [wl_ (v:=mem[j]) (by show (3:Int)<=17;decide) (by rw [v1_ (by show (3:Int)≠1;decide) (by show (3:Int)≠2;decide)];show (if (3:Int)=3 then (if x.i<0\/4<=x.i then Except.error 6 else Except.ok (cell mem (8+x.i)))else _)=_;rw [if_pos rfl,if_neg hr,hj0,v2_ hj])];show VOK _ _ _ (Sy.puts _ _ (KS _ s3++[.int .i64 (8+x.i)])) _;rw [hj0];refine vv_ (s_ mem hj) rfl (vf_ (rp_ mem hj) rfl (okV _) ?_);exact AS_ (m:=⟨pc,rest++[x],mem,used,now,over,0⟩) (v:=mem[j]) hs3 (by omega) hpc rfl rfl rfl (λs'=>rfl) (λs'=>rfl);rintro ws (⟨hr,_,rfl⟩|⟨_,h0,_⟩);have hr:x.i<0\/4<=x.i:=hr;exact ye_ (by rw [xx_ (e:=6) (by show (3:Int)<=17;decide) (by rw [v1_ (by show (3:Int)≠1;decide) (by show (3:Int)≠2;decide)];show (if (3:Int)=3 then (if x.i<0\/4<=x.i then Except.error 6 else Except.ok (cell mem (8+x.i)))else _)=_;rw [if_pos rfl,if_pos hr])];rfl) (by decide) rfl;cases h0
  .subst h1 h4;obtain ⟨a,rfl,ha⟩:=I_ (s2.trans h5);have ht:v0_ ⟨17,k,ad,n,vk,vi,vf⟩ mem a a=w_ k a:=by rw [v1_ (by show (17:Int)≠1;decide) (by show (17:Int)≠2;decide)];show (if (17:Int)=3 then _ else if (17:Int)=17 then w_ k a else _)=_;rw [if_neg (by decide),if_pos rfl]
   have hc:=p96 (m:=⟨pc,rest++[a],mem,us,now,over,0⟩) (i:=⟨17,k,ad,n,vk,vi,vf⟩) hs (by omega) ⟨h2,h3⟩ h6 (v2 a List.mem_cons_self) ha;repeat (refine a_ rfl rfl ?_ ?_<;>intro h<;>simp only [nc]at h<;>try omega)
   refine uv_ hc okG ⟨?_,?_,trivial⟩;rintro ws (⟨v,s3,hv,_,hs3,rfl⟩|⟨_,_,h0,_⟩);rw [wl_ (v:=v) (by show (17:Int)<=17;decide) (ht.trans hv)];exact vv_ (g_ (x:=pc) (by omega) (by omega)) rfl (vS_ (s:=s3) rfl hs3 rfl);cases h0;rintro ws (⟨_,_,_,h0,_⟩|⟨e,hv,_,rfl⟩);cases h0;have he:=w9_ hv;exact ye_ (by rw [xx_ (e:=e) (by show (17:Int)<=17;decide) (ht.trans hv)];rfl) (by omega) rfl
  .have hop:=h1;unfold OpK at hop;have key:∃a b,inn.headD FV.z=a/\inn.getLastD FV.z=b/\CF Tryz.prog 97 yE_ (KR ⟨pc,rest++inn,mem,us,now,over,0⟩ s++tS_ ⟨op,kd,ad,n,vk,vi,vf⟩) (R97 ⟨pc,rest++inn,mem,us,now,over,0⟩ rest (opX op a b)):=(by rcases h3 with ⟨h3,h4⟩|⟨h3,h4⟩;obtain ⟨a,rfl,ha⟩:=I_ (s2.trans h3);exact ⟨a,a,rfl,rfl,DW_ (i:=⟨op,kd,ad,n,vk,vi,vf⟩) hs (by omega) h1 h4 (v2 a List.mem_cons_self) ha⟩;obtain ⟨a,b,rfl,ha,hb⟩:=rI_ (s2.trans h3);exact ⟨a,b,rfl,rfl,DX_ (i:=⟨op,kd,ad,n,vk,vi,vf⟩) hs (by omega) h1 h4 (v2 a List.mem_cons_self) (v2 b (List.mem_cons_of_mem _ List.mem_cons_self)) ha hb⟩);obtain ⟨a,b,ea,eb,hc⟩:=key;have h317:op≠3/\op≠17:=⟨by omega,by omega⟩;have ht:v0_ ⟨op,kd,ad,n,vk,vi,vf⟩ mem a b=opX op a b:=(by rw [v1_ (by show op≠1;omega) (by show op≠2;omega)];exact xI_ h317.1 h317.2);rw [←ea,←eb]at ht;rw [←ea,←eb]at hc;clear ea eb h1 h2 h3;repeat (refine a_ rfl rfl ?_ ?_<;>intro h<;>simp only [nc]at h<;>try omega)
   refine uv_ hc okG ⟨?_,?_,trivial⟩;rintro ws (⟨v,s3,hv,_,hs3,rfl⟩|⟨_,_,h0,_⟩);rw [wl_ (v:=v) (by show op<=17;omega) (ht.trans hv)];exact vv_ (g_ (x:=pc) (by omega) (by omega)) rfl (vS_ (s:=s3) rfl hs3 rfl);cases h0;rintro ws (⟨_,_,_,h0,_⟩|⟨e,hv,_,rfl⟩);cases h0;have he:e≠0:=(by unfold opX at hv;split at hv;cases hv;rename_i h;cases hv;exact h);exact ye_ (by rw [xx_ (e:=e) (by show op<=17;omega) (ht.trans hv)];rfl) he rfl
 .rcases hT with ⟨h1,k,h2,h3⟩|⟨h1,h2,h3,h4⟩|⟨h1,h2,h3⟩|⟨h1,h2,q,h3,h4⟩
  .subst h1;obtain ⟨v,rfl,hv⟩:=I_ (s2.trans h2);obtain ⟨c1,c2,c3⟩:=wr_k _ h3;simp only at c1 c2;obtain ⟨j,rfl⟩:∃j:Nat,ad=(j:Int):=⟨ad.toNat,by omega⟩;have hj:j<mem.length:=(by omega);rw [BE_ rfl];repeat (refine a_ rfl rfl ?_ ?_<;>intro h<;>simp only [nc]at h<;>try omega)
   refine uv_ (p94 (m:=⟨pc,rest++[v],mem,us,now,over,0⟩) hs (by omega)) ok0 ⟨?_,trivial⟩;rintro ws ⟨s3,hs3,rfl⟩;refine vv_ (s_ mem hj) rfl (vv_ (vl_ mem hj v) (aM_ _) (vv_ (g_ (x:=pc) (by omega) (by omega)) rfl (vd_ (vm_ mem j v) ?_)));exact vS_ (s:=s3) rfl hs3 rfl
  .subst h1 h2 h3;obtain ⟨v,x,rfl,hv,hx⟩:∃v x,inn=[v,x]/\v.k=2/\(x.k=2\/x.k=3):=by rcases h4 with h4|h4;obtain ⟨v,x,e,h,h'⟩:=rI_ (s2.trans h4);exact ⟨v,x,e,h,.inl h'⟩;obtain ⟨v,x,e,h,h'⟩:=rI_ (s2.trans h4);exact ⟨v,x,e,h,.inr h'⟩
   have hs':St ((rest++[v])++[x]) s:=(by rw [List.append_assoc];exact hs);have hq:=AG_ (i:=⟨19,kd,8,4,vk,vi,vf⟩) (m:=⟨pc,rest++[v,x],mem,used,now,over,0⟩) (rest:=rest) (inn:=[v,x]) rfl;have hq:doI _ _ _ _=if x.i<0\/4<=x.i then _ else goM _ _ rest (mem.set (8+x.i).toNat v):=hq
   repeat (refine a_ rfl rfl ?_ ?_<;>intro h<;>simp only [nc]at h<;>try omega)
   refine uv_ (p93 (m:=⟨pc,rest++[v,x],mem,us,now,over,0⟩) (i:=⟨19,kd,8,4,vk,vi,vf⟩) hs' (by simp;omega) rfl rfl) okG ⟨?_,?_,trivial⟩;rintro ws (⟨_,h0,_⟩|⟨hr,_,s3,hs3,rfl⟩);cases h0;have hr:¬(x.i<0\/4<=x.i):=hr;rw [if_neg hr]at hq;rw [hq];refine uv_ (p94 (m:=⟨pc,rest++[v,x],mem,us,now,over,0⟩) hs3 (by omega)) (show okL (KR _ s3)=true from C_ ⟨pc,rest++[v,x],mem,us,now,over,0⟩ (St.okC hs3)) ⟨?_,trivial⟩;rintro ws ⟨s4,hs4,rfl⟩;obtain ⟨j,hj0⟩:∃j:Nat,8+x.i=(j:Int):=⟨(8+x.i).toNat,by omega⟩;have hj:j<mem.length:=(by omega);have hib:(XOp.inb).run Tryz.prog [c_ mem,.int .i64 (8+x.i)]=some (.int .i64 (j:Int)):=(by rw [hj0];exact s_ mem hj);have hjn:(8+x.i).toNat=j:=(by omega);rw [hjn];refine vv_ hib rfl (vv_ (vl_ mem hj v) (aM_ _) (vv_ (g_ (x:=pc) (by omega) (by omega)) rfl (vd_ (vm_ mem j v) ?_)));exact vS_ (s:=s4) rfl hs4 rfl;rintro ws (⟨hr,_,rfl⟩|⟨_,h0,_⟩);have hr:x.i<0\/4<=x.i:=hr;rw [if_pos hr]at hq;exact ye_ (by rw [hq];rfl) (by decide) rfl;cases h0
  .subst h1;rw [←s2]at h2 h3;rw [List.length_map]at h3;have hc:=p95 (m:=⟨pc,rest++inn,mem,us,now,over,0⟩) (i:=⟨22,kd,ad,n,vk,vi,vf⟩) hs (by omega) hm hn h2 h3 v2;rw [BH_ rfl];repeat (refine a_ rfl rfl ?_ ?_<;>intro h<;>simp only [nc]at h<;>try omega)
   refine uv_ hc okG ⟨?_,trivial⟩;rintro ws ⟨s3,hs3,rfl⟩;exact vv_ (g_ (x:=pc) (by omega) (by omega)) rfl (vS_ (s:=s3) rfl hs3 rfl)
  .subst h1;obtain ⟨x,rfl,hx⟩:=I_ (s2.trans h2);rw [BG_ rfl];repeat (refine a_ rfl rfl ?_ ?_<;>intro h<;>simp only [nc]at h<;>try omega)
   refine uv_ (p94 (m:=⟨pc,rest++[x],mem,us,now,over,0⟩) hs (by omega)) ok0 ⟨?_,trivial⟩;rintro ws ⟨s3,hs3,rfl⟩
   (refine a_ rfl rfl ?_ ?_<;>intro h<;>simp only [nc]at h<;>try omega)
   refine vS_ (s:=s3) rfl hs3 ?_;show _=KR _ s3++[.int .i64 (if x.i=0 then ad else pc+1)];rw [if_pos h];rfl;refine vv_ (g_ (x:=pc) (by omega) (by omega)) rfl (vS_ (s:=s3) rfl hs3 ?_);show _=KR _ s3++[.int .i64 (if x.i=0 then ad else pc+1)];rw [if_neg h];rfl
 .subst h20;have hk0:ks=[]:=List.length_eq_zero_iff.1 hks;obtain rfl:=xq_ (s2.trans hk0);rw [List.append_nil]at*;rw [BF_ rfl];repeat (refine a_ rfl rfl ?_ ?_<;>intro h<;>simp only [nc]at h<;>try omega)
  exact vS_ (s:=s) rfl hs rfl
 .subst h23;have hk0:ks=[]:=List.length_eq_zero_iff.1 hks;obtain rfl:=xq_ (s2.trans hk0);rw [List.append_nil]at*;rw [BI_ rfl];repeat (refine a_ rfl rfl ?_ ?_<;>intro h<;>simp only [nc]at h<;>try omega)
  exact vS_ (s:=s) rfl hs rfl
def c54:VC:=⟨⟨[],[]⟩,[],[],0,true,[]⟩
def t54:VT:=It Zt [64,64] 65 (.done (.int .u64 9221120237041090561))<|Li (.ext 88) [64] 66<|.done (66)
def c52:VC:=⟨⟨[],[]⟩,[(54,[none])],[],0,true,[]⟩
def t52:VT:=.call 54 [64] 66 [none]<|.call 54 [65] 67 [none]<|Li (.bin .eql 101 false false) [66,67] 68<|.done (68)
def c24:VC:=⟨⟨[],[]⟩,[(52,[none])],[],0,true,[]⟩
def t24:VT:=It Qk [64,67] 70 (It Qq [65,68] 71 (.call 52 [66,69] 72 [none]<|.done (72))<|.done (.bool false))<|.done (.bool false)
def Bm_:Option Nat->Int
 |none=>9221120237041090561
 |some n=>if de_ n=true then 9221120237041090561 else (n:Int)
theorem BL_ (n:Nat):(XOp.ext 88).run Tryz.prog [.flt .f64 n]=some (.int .u64 (n:Int)):=by kernel_rfl
theorem p54 (o:Option Nat):kH_ Tryz.prog 54 [fv o] (.int .u64 (Bm_ o)):=by
 refine t6_ (sh:=[none]) (ls:=[fv o]) (c:=c54) (n:=300) (t:=t54) mo ov rfl (zk_ o) rfl (λY _=>vC_ _) rfl (by kernel_rfl) λY hf hg=>?_;unfold t54;refine vv_ (ux_ ..) rfl (ve_ rfl (λh=>?_) (λh=>?_))
 .rw [wH_]at h;refine uH_ ?_;cases o with
  |none=>rfl
  |some n=>show AV.int _ _=AV.int _ (if de_ n=true then 9221120237041090561 else (n:Int));exact congrArg (AV.int .u64) (if_pos h).symm
 .rw [wH_]at h;cases o with
  |none=>cases h
  |some n=>refine vv_ (BL_ n) rfl (uH_ ?_);show AV.int _ _=AV.int _ (if de_ n=true then 9221120237041090561 else (n:Int));rw [if_neg (by rw [show de_ n=false from h];exact Bool.false_ne_true)]
theorem p52 (o:Option Nat):kH_ Tryz.prog 52 [fv o,fv o] (.bool true):=by refine t6_ (sh:=[none,none]) (ls:=[fv o,fv o]) (c:=c52) (n:=300) (t:=t52) mo ov rfl (by simp only [okL,vM_]) rfl (λY _=>vC_ _) rfl (by kernel_rfl) λY hf hg=>?_;unfold t52;exact uG_ (p54 o) rfl rfl (uG_ (p54 o) rfl rfl (vv_ (run_eql ..) rfl (uH_ (congrArg AV.bool (decide_eq_true rfl)))))
theorem p24 (v:FV):kH_ Tryz.prog 24 [.agg (d_ v),.agg (d_ v)] (.bool true):=by
 refine t6_ (sh:=[some 3,some 3]) (ls:=d_ v++d_ v) (c:=c24) (n:=300) (t:=t24) mo ov rfl (kS_.okL_join (okV v) (okV v)) rfl (λY _=>vC_ _) rfl (by kernel_rfl) λY hf hg=>?_;unfold t24
 (refine a_ rfl rfl ?_ ?_<;>intro h<;>simp only [nc]at h<;>try omega)
 (refine a_ rfl rfl ?_ ?_<;>intro h<;>simp only [nc]at h<;>try omega)
 exact uG_ (p52 v.f) rfl rfl (uH_ rfl)
def c18:VC:=⟨⟨[],[]⟩,[(24,[none])],[(0,[⟨[(5,.slx 0 0 0),(1,65),(0,64)],[],0,1,[],[],[]⟩])],0,true,[]⟩
def t18:VT:=Li Qp [64] 66<|Li Qp [65] 67<|It Q7 [66,67] 68 (.done (.bool false))<|.loop 69 0 [J 0] (.cons 1 (Li Qp [64] 70<|It Q4 [69,70] 71 (Li Qb [64,69] 72<|.lt Qm [72] 73 (some 3)<|Li Qb [65,69] 76<|.lt Qm [76] 77 (some 3)<|.call 24 [.agg [73,74,75],.agg [77,78,79]] 80 [none]<|It Q3 [80] 81 (.done (.bool false))<|Li Q2 [69,J 1] 82<|.again 0 0 [82])<|.done (.bool true)) .nil)
theorem p18 {l:List FV} (hl:l.length<=1000):kH_ Tryz.prog 18 [c_ l,c_ l] (.bool true):=by
 refine t6_ (sh:=[none,none]) (ls:=[c_ l,c_ l]) (c:=c18) (n:=300) (t:=t18) mo ov rfl (by simp only [okL,aM_]) rfl (λY _=>vC_ _) rfl (by kernel_rfl) λY hf hg=>?_;unfold t18;refine vv_ (uy_ l) rfl (vv_ (uy_ l) rfl ?_)
 (refine a_ rfl rfl ?_ ?_<;>intro h<;>simp only [nc]at h<;>try omega)
 refine uI_ (ι:=Nat) (λi=>[.int .i64 (i:Int)]) (λi=>i<=l.length) (λi=>l.length-i) 0 (Nat.zero_le _) rfl (λ_ _=>rfl) (λs s' _ _ h=>by simp at h;omega) (λi hi=>?_);refine vv_ (uy_ l) rfl ?_
 (refine a_ rfl rfl ?_ ?_<;>intro h<;>simp only [nc]at h<;>try omega)
 have hi:i<l.length:=(by omega);refine vv_ (qR_ l hi) (kS_ okV _) (vf_ (qV_ l hi) rfl (okV _) ?_);refine vv_ (qR_ l hi) (kS_ okV _) (vf_ (qV_ l hi) rfl (okV _) ?_);refine uG_ (p24 l[i]) rfl rfl (vv_ (r:=.bool false) rfl rfl (ve_ (t:=false) rfl (λh=>by cases h) (λ_=>?_)));exact vv_ (g_ (by omega) (by omega)) rfl (uu_ rfl ⟨i+1,hi,rfl,by omega⟩);exact uH_ rfl
theorem yY_ (n:Nat) (h:n<65536):(XOp.conv 23 2).run Tryz.prog [.int .u16 (n:Int)]=some (.int .i64 (n:Int)):=by rw [tD_ Tryz.underlying23 Tryz.underlying2,vK_ (by omega) (by omega)]
def c29:VC:=⟨⟨[],[]⟩,[],[],0,true,[]⟩
def t29:VT:=It Zx [64,.nsl] 66 (.done (.agg [J 0,.nsl,.nsl,J 0,65,.bool false,J 0]))<|Li Qg [.vsl 0 3 [],64] 67<|.done (.agg [J 0,.nsl,67,J 0,65,.bool false,J 0])
def c30:VC:=⟨⟨[],[]⟩,[],[],0,true,[]⟩
def t30:VT:=Li Qg [.vsl 0 3 [],64] 66<|.done (.agg [J 0,.nsl,66,J 0,65,.bool false,J 0])
def c31:VC:=⟨⟨[],[]⟩,[(18,[none])],[],0,true,[]⟩
def t31:VT:=It Qk [64,71] 78 (It Qk [67,74] 79 (It Qq [68,75] 80 (It Uj [69,76] 81 (It Zc [70,77] 82 (.call 18 [65,72] 83 [none]<|.ite 83 (.call 18 [66,73] 84 [none]<|.done (84))<|.done (.bool false))<|.done (.bool false))<|.done (.bool false))<|.done (.bool false))<|.done (.bool false))<|.done (.bool false)
def c32:VC:=⟨⟨[],[]⟩,[],[],0,true,[(41,ft41),(59,AL_)]⟩
def z6_:VT:=Cf 41 ft41 [66] 73 1<|Cf 41 ft41 [67] 75 1<|Li Q2 [68,J 1] 77<|Li (.iaddr 61) [64,65] 78<|.lt (.load 105) [78] 79 (some 7)<|.callF 59 AL_ [65,74,76,77,69,70,71,79,80,81,82,83,84,85] 86 (.cons 8 (Dn [107,101,102,103,104,105,106]) (.cons 1 (Cf 41 ft41 [66] 101 1<|Cf 41 ft41 [67] 103 1<|Li Q2 [68,J 1] 105<|Dn [65,102,104,105,69,70,100]) .nil))
def t32:VT:=.ite 70 (Cf 41 ft41 [66] 72 1<|Cf 41 ft41 [67] 74 1<|Dn [65,73,75,68,69,70,71])<|It Q5 [71,J 0] 72 (Cf 41 ft41 [66] 73 1<|Cf 41 ft41 [67] 75 1<|Dn [65,74,76,68,69,70,71])<|.both (.both z6_ z6_) z6_
theorem DS_ {l:List FV} {x y:AV} (hx:St l x) (hy:St l y) (hl:l.length<=1000):kH_ Tryz.prog 18 [x,y] (.bool true):=by
 refine t6_ (sh:=[none,none]) (ls:=[x,y]) (c:=c18) (n:=300) (t:=t18) mo ov rfl (by simp only [okL,St.okC hx,St.okC hy]) rfl (λY _=>vC_ _) rfl (by kernel_rfl) λY hf hg=>?_;unfold t18;refine vv_ (hx.len Tryz.underlying31) rfl (vv_ (hy.len Tryz.underlying31) rfl ?_)
 (refine a_ rfl rfl ?_ ?_<;>intro h<;>simp only [nc]at h<;>try omega)
 refine uI_ (ι:=Nat) (λi=>[.int .i64 (i:Int)]) (λi=>i<=l.length) (λi=>l.length-i) 0 (Nat.zero_le _) rfl (λ_ _=>rfl) (λs s' _ _ h=>by simp at h;omega) (λi hi=>?_);refine vv_ (hx.len Tryz.underlying31) rfl ?_
 (refine a_ rfl rfl ?_ ?_<;>intro h<;>simp only [nc]at h<;>try omega)
 have hi:i<l.length:=(by omega);have hne:l≠[]:=λe=>(by rw [e]at hi;simp at hi);have ex:x=c_ l:=hx.eq hne;have ey:y=c_ l:=hy.eq hne;have hix:=qR_ l hi;have hiy:=hix;rw [←ex]at hix;rw [←ey]at hiy;refine vv_ hix (kS_ okV _) (vf_ (qV_ l hi) rfl (okV _) ?_);refine vv_ hiy (kS_ okV _) (vf_ (qV_ l hi) rfl (okV _) ?_);refine uG_ (p24 l[i]) rfl rfl (vv_ (r:=.bool false) rfl rfl (ve_ (t:=false) rfl (λh=>by cases h) (λ_=>?_)));exact vv_ (g_ (by omega) (by omega)) rfl (uu_ rfl ⟨i+1,hi,rfl,by omega⟩);exact uH_ rfl
def vZ_ (mem:List FV) (now:Int):MS:=⟨0,[],mem,0,now,false,0⟩
theorem p29 {mem:List FV} (hm:MemOk mem) (now:Int):kH_ Tryz.prog 29 [c_ mem,.int .i64 now] (.agg (KR (vZ_ mem now) .nsl)):=by refine t6_ (sh:=[none,none]) (ls:=[c_ mem,.int .i64 now]) (c:=c29) (n:=300) (t:=t29) mo ov rfl (by simp only [okL,okC,aM_]) (Y_ (C_ (vZ_ mem now) rfl)) (λY _=>vC_ _) rfl (by kernel_rfl) λY hf hg=>?_;unfold t29;exact vv_ (BK_ hm) rfl (ve_ rfl (λh=>by cases h) (λ_=>vv_ (xV_ hm) (aM_ mem) (uH_ rfl)))
theorem p30 {mem:List FV} (hm:MemOk mem) (now:Int):kH_ Tryz.prog 30 [c_ mem,.int .i64 now] (.agg (KR (vZ_ mem now) .nsl)):=by refine t6_ (sh:=[none,none]) (ls:=[c_ mem,.int .i64 now]) (c:=c30) (n:=300) (t:=t30) mo ov rfl (by simp only [okL,okC,aM_]) (Y_ (C_ (vZ_ mem now) rfl)) (λY _=>vC_ _) rfl (by kernel_rfl) λY hf hg=>?_;unfold t30;exact vv_ (xV_ hm) (aM_ mem) (uH_ rfl)
theorem p31 {m:MS} {x y:AV} (hx:St m.st x) (hy:St m.st y) (hl:m.st.length<=1000) (hm:m.mem.length<=1000):kH_ Tryz.prog 31 [.agg (KR m x),.agg (KR m y)] (.bool true):=by
 have h1:=DS_ hx hy hl;have h2:=p18 hm;refine t6_ (sh:=[some 7,some 7]) (ls:=KR m x++KR m y) (c:=c31) (n:=300) (t:=t31) mo ov rfl (x1_ m (St.okC hx) (C_ m (St.okC hy))) rfl (λY _=>vC_ _) rfl (by kernel_rfl) λY hf hg=>?_;unfold t31
 (refine a_ rfl rfl ?_ ?_<;>intro h<;>simp only [nc]at h<;>try omega)
 (refine a_ rfl rfl ?_ ?_<;>intro h<;>simp only [nc]at h<;>try omega)
 (refine a_ rfl rfl ?_ ?_<;>intro h<;>simp only [nc]at h<;>try omega)
 refine vv_ (r:=.bool true) (by show (XOp.bin .eql 4 false false).run Tryz.prog [.bool m.over,.bool m.over]=_;cases m.over<;>rfl) rfl (ve_ (t:=true) rfl (λ_=>?_) (λh=>by cases h))
 (refine a_ rfl rfl ?_ ?_<;>intro h<;>simp only [nc]at h<;>try omega)
 exact uG_ h1 rfl rfl (ve_ (t:=true) rfl (λ_=>uG_ h2 rfl rfl (uH_ rfl)) (λh=>by cases h))
theorem AB_ {Q:AV->Prop} {L:List (Nat->List AV->Prop)} {Y:Sy} {a:VT} (h:VOK Tryz.prog Q L Y a):VOK Tryz.prog Q L Y (.both (.both a a) a):=⟨⟨h,h⟩,h⟩
def RKM (m:MS):Nat->List AV->Prop:=λ_ ws=>∃s,St m.st s/\ws=KR m s
theorem vE_ {mem:List FV} (hm:MemOk mem) {s:AV} (h:St mem s):s=c_ mem:=SlV.eq h (λe=>by have:=hm.len;rw [e]at this;cases this)
theorem zP_ {i:GI} {m:MS} {r n:List FV} (he:m.err=0) (h:(doI i m r n).err≠0):doI i m r n=vN_ m (doI i m r n).err:=by
 by_cases h1:i.op<=17
 .rw [wF_ h1]at h⊢;cases ht:v0_ i m.mem (n.headD FV.z) (n.getLastD FV.z)with
  |error e=>rfl
  |ok v=>rw [ht]at h;exact absurd he h
 .by_cases h2:i.op=19;rw [AG_ h2]at h⊢;split at h;rename_i h3;rw [if_pos h3];rfl;exact absurd he h
  .unfold doI at h;rw [if_neg h1,if_neg h2]at h;repeat' (split at h)
   all_goals exact absurd he h
theorem xE_ {l:List GI} {p:Nat} (h:p<l.length):(XOp.iaddr 61).run Tryz.prog [i_ l,.int .i64 (p:Int)]=some (.vptr (aR_ tS_ (l.drop p))):=
 run_iaddr_sl (e:=105) (ti:=(Tryz.prog.info? 105).get!) Tryz.underlying61 (by kernel_rfl) (by kernel_rfl) yG_ h .i64
theorem xF_ {l:List GI} {p:Nat} (h:p<l.length):(XOp.load 105).run Tryz.prog [.vptr (aR_ tS_ (l.drop p))]=some (.agg (tS_ l[p])):=
 run_load_agg (ti:=(Tryz.prog.info? 105).get!) Tryz.underlying105 rfl (by kernel_rfl) (by kernel_rfl) yG_ h
theorem nk_ {m:MS} {s:AV} (hs:St m.st s) {hv:List AV} {Y:Sy} {L:List (Nat->List AV->Prop)} (h:ab_ Y.v hv=KR m s):VOK Tryz.prog (QF (RKM m)) L Y (.done (.tup (.int .i64 0::hv))):=
 VOK_fin (j:=0) (by rw [h];exact C_ _ (St.okC hs)) ⟨s,hs,h⟩
theorem p32 {l:List GI} {T:List (List Int)} {m:MS} {s:AV} (hG:Good T 0 l) (hn: -9223372036854775808<=m.now/\m.now<=9223372036854775807) (hl:l.length<=400) (hu:0<=m.used/\m.used<=1000000) (hmt:MTs l T m) (hs:St m.st s):
  CF Tryz.prog 32 AK_ (i_ l::KR m s) (RKM (u_ l m)):=by
 obtain ⟨p,i,K,h⟩:=hmt;obtain ⟨hp,hi⟩:=List.getElem?_eq_some_iff.1 h.at_;have hT:=hG p i K h.at_ (by rw [Nat.zero_add];exact h.ty);rw [Nat.zero_add]at hT;have hinst:=h.inst;have hmm:=h.mem;have hst:m.st.length<=40:=by obtain ⟨K0,ks,e,_,h40,_⟩:=hT;have:=congrArg List.length h.st;rw [List.length_map]at this;omega
 have hsm:St m.mem (c_ m.mem):=SlV.of m.mem;have hml:=hmm.len;have c1:=p41 hs (by omega);have c2:=p41 hsm (by omega);have stuck:vP_ m->u_ l m=m:=λh=>uP_ h;have hpc:=h.pc;have htv:=h.tv;have ks:=h.st;refine vh_ (c:=c32) (n:=300) (t:=t32) mo ov rfl (λY _=>vC_ _) (by kernel_rfl) λY hf hg=>?_;unfold t32;refine ve_ (t:=m.over) rfl (λhov=>?_) (λhov=>?_);rw [stuck (.inl hov)];refine uv_ c1 (by show okL [s]=true;simp only [okL,St.okC hs]) ⟨?_,trivial⟩;rintro ws ⟨s3,hs3,rfl⟩;refine uv_ c2 (by show okL [c_ m.mem]=true;simp only [okL,aM_]) ⟨?_,trivial⟩;rintro ws ⟨s4,hs4,rfl⟩;obtain rfl:=vE_ hmm hs4;exact nk_ hs3 rfl
 (refine a_ rfl rfl ?_ ?_<;>intro h<;>simp only [nc]at h<;>try omega)
 rw [stuck (.inr h)];refine uv_ c1 (by show okL [s]=true;simp only [okL,St.okC hs]) ⟨?_,trivial⟩;rintro ws ⟨s3,hs3,rfl⟩;refine uv_ c2 (by show okL [c_ m.mem]=true;simp only [okL,aM_]) ⟨?_,trivial⟩;rintro ws ⟨s4,hs4,rfl⟩;obtain rfl:=vE_ hmm hs4;exact nk_ hs3 rfl;have he:m.err=0:=h;have hstep:u_ l m=doI i m (m.st.take (m.st.length-f_ i)) (m.st.drop (m.st.length-f_ i)):=by unfold u_;rw [if_neg (λhh=>by rcases hh with hh|hh;exact (by rw [hov]at hh;cases hh);exact hh he),hinst]
 refine AB_ ?_;unfold z6_;refine uv_ c1 (by show okL [s]=true;simp only [okL,St.okC hs]) ⟨?_,trivial⟩;rintro ws ⟨s3,hs3,rfl⟩;refine uv_ c2 (by show okL [c_ m.mem]=true;simp only [okL,aM_]) ⟨?_,trivial⟩;rintro ws ⟨s4,hs4,rfl⟩;obtain rfl:=vE_ hmm hs4;have hia:=xE_ hp;rw [←hpc]at hia;have hld:=xF_ hp;rw [hi]at hld;refine vv_ (g_ (x:=m.used) (by omega) (by omega)) rfl (vv_ hia (kS_ okG _) (vf_ hld rfl (okG i) ?_));have hc:=p59 (m:=m) (i:=i) (T:=T) (p:=p) (m.used+1) hs3 he (by omega) hn (by rw [ks];exact hT) htv hmm;rw [hstep];have hus:=wM_ i m (m.st.take (m.st.length-f_ i)) (m.st.drop (m.st.length-f_ i));have hbd:=λh=>zP_ (i:=i) (r:=m.st.take (m.st.length-f_ i)) (n:=m.st.drop (m.st.length-f_ i)) he h;generalize doI i m (m.st.take (m.st.length-f_ i)) (m.st.drop (m.st.length-f_ i))=q at*;refine uv_ hc (x1_ ⟨m.pc,m.st,m.mem,m.used+1,m.now,m.over,m.err⟩ (St.okC hs3) (okG i)) ⟨?_,?_,trivial⟩;rintro ws (⟨hq,_,s5,hs5,rfl⟩|⟨_,h0,_⟩);obtain ⟨qpc,qst,qmem,qu,qn,qo,qe⟩:=q;obtain ⟨u1,u2⟩:=hus;simp only at u1 u2 hq hs5;subst u1 u2 hq;refine nk_ hs5 ?_;show [_,_,_,_,_,_,AV.int .i64 m.err]=_;rw [he];rfl;cases h0;rintro ws (⟨_,h0,_⟩|⟨hq,_,rfl⟩);cases h0;refine uv_ c1 (by show okL [s]=true;simp only [okL,St.okC hs]) ⟨?_,trivial⟩;rintro ws ⟨s6,hs6,rfl⟩;refine uv_ c2 (by show okL [c_ m.mem]=true;simp only [okL,aM_]) ⟨?_,trivial⟩;rintro ws ⟨s7,hs7,rfl⟩;obtain rfl:=vE_ hmm hs7;have hb:=hbd hq;refine vv_ (g_ (x:=m.used) (by omega) (by omega)) rfl ?_;have hs8:St q.st s6:=(by rw [hb];exact hs6);refine nk_ hs8 ?_;rw [hb];rfl
theorem R_ (l:List GI) (i:GI) (hl:l.length<=1000000):(XOp.app 7 56).run Tryz.prog [i_ l,.agg (tS_ i)]=some (i_ (l++[i])):=t9_ yG_ (by decide) (by decide) l i (by omega)
theorem O_ (l:List GI):(XOp.len 61).run Tryz.prog [i_ l]=some (.int .i64 (l.length:Int)):=uc_ Tryz.underlying61 l
def R24 (l:List GI):Nat->List AV->Prop:=λ_ ws=>ws=[i_ l]
theorem x0_ (l:List GI):okL [i_ l]=true:=by simp only [okL,okI]
theorem zu_ (l:List GI) {i:Nat} (hi:i<l.length) (a:Int) (k:IntKind):(XOp.stx 3 7 2).run Tryz.prog [i_ l,.int k (i:Int),.int .i64 a]=some (i_ (l.set i { l[i]with ad:=a })):=
 run_stx (ti:=(Tryz.prog.info? 3).get!) yG_ hi (p:=[.int .i64 l[i].op,.int .i64 l[i].kd]) (q:=[.int .i64 l[i].ad]) (r:=[.int .i64 l[i].n,.int .i64 l[i].vk,.int .i64 l[i].vi,.flt .f64 l[i].vf]) (xs:=[.int .i64 a]) rfl (.inr ⟨_,_,rfl⟩) (by kernel_rfl) (by kernel_rfl) rfl rfl rfl rfl rfl k
theorem z3_ {α:Type} (a:List α) (x y:α) (b:List α):(a++([x]++b)).set a.length y=a++([y]++b):=by rw [List.set_append_right _ _ (Nat.le_refl _),Nat.sub_self];rfl
theorem zR_ {α:Type} (a:List α) (x:α) (b:List α) (h:a.length<(a++([x]++b)).length):(a++([x]++b))[a.length]=x:=by rw [List.getElem_append_right (Nat.le_refl _)];simp
theorem wj_ (a:List GI) (op:Int) (b:List GI) (t:Int):(XOp.stx 3 7 2).run Tryz.prog [i_ (a++([v_ op 0 0 0]++b)),.int .i64 (a.length:Int),.int .i64 t]=some (i_ (a++([v_ op 0 t 0]++b))):=by
 have h:a.length<(a++([v_ op 0 0 0]++b)).length:=by simp
 rw [zu_ _ h t .i64,zR_,z3_];rfl
theorem wJ_ {Y:Sy} {i j:Nat} {l l':List GI} (h1:Y.v i=some (i_ l)) (h2:Y.v j=some (i_ l')) (h:l.length=l'.length):(Chk.same i j).ok Y:=by
 cases l with
 |nil=>
  cases l' with
  |nil=>exact .inl ⟨h1,h2⟩
  |cons a r=>simp at h
 |cons a r=>
  cases l' with
  |nil=>simp at h
  |cons b q=>have e:r.length=q.length:=(by simpa using h);exact .inr ⟨r.length+1,7,_,_,h1,by rw [h2];show some (AV.vsl (q.length+1) 7 _)=_;rw [e]⟩
theorem DJ_ (l:List GI) (x:GS):okL (i_ l::pY_ x)=true:=by rw [a1_,okI];exact okS x
theorem BU_ (l:List GI) (x:List GS):okL [i_ l,P_ x]=true:=by rw [a1_,okI];simp only [okL,okB];rfl
theorem wp_:∀(b:Nat) (x y:List GS),h_ b (x++y)=h_ b x++h_ (b+(h_ b x).length) y
 |b,[],y=>by simp [h_]
 |b,s::x,y=>by simp only [List.cons_append,h_,wp_ _ x y,List.append_assoc,List.length_append,Nat.add_assoc]
theorem xY_ (b:Nat) (x:List GS) {i:Nat} (hi:i<x.length):h_ b (x.take (i+1))=h_ b (x.take i)++sU_ (b+(h_ b (x.take i)).length) x[i]:=by rw [List.take_succ_eq_append_getElem hi,wp_];simp only [h_,List.append_nil]
theorem y5_ (b:Nat) (x:List GS) (i:Nat):(h_ b (x.take i)).length<=(h_ b x).length:=by have:=congrArg List.length (wp_ b (x.take i) (x.drop i));rw [List.take_append_drop,List.length_append]at this;omega
def c128:VC:=⟨⟨[],[]⟩,[(128,[none])],[(1,[⟨[(4,.slx 0 0 0),(1,.ptr 0 0),(3,.slx 1 7 1)],[(0,[64,65,66,67,68,69,70,71,72,73])],2,2,[⟨1,7,1,3,none⟩],[],[]⟩])],0,true,[]⟩
def Cq_:VT:=Iq 64 1 74 (.done (.vsl 1 7 [J 1,70,J 0,J 0,70,71,72]))<|Iq 64 2 75 (.done (.vsl 1 7 [J 2,J 0,68,J 0,J 0,J 0,.flt .f64 0]))<|.loop 76 0 [J 0,.nsl] (.cons 2 (Li Qe [73] 78<|It Q4 [76,78] 79 (Li Qa [73,76] 80<|.lt Qd [80] 81 (some 10)<|.call 128 [.agg [81,82,83,84,85,86,87,88,89,90]] 91 [none]<|Li Qs [77,91] 92<|Li Q2 [76,J 1] 93<|.again 0 0 [93,92])<|Iq 64 3 80 (Li Qs [77,.agg [J 3,J 0,68,69,J 0,J 0,.flt .f64 0]] 81<|.done (81))<|Iq 64 17 81 (Li Qa [73,J 0] 82<|Li Ze [82] 83<|Li Qu [83] 84<|Li Qs [77,.agg [J 17,65,J 0,84,J 0,J 0,.flt .f64 0]] 85<|.done (85))<|Li Qa [73,J 0] 82<|Li Ze [82] 83<|Li Qu [83] 84<|Li Qs [77,.agg [64,84,J 0,J 0,J 0,J 0,.flt .f64 0]] 85<|.done (85)) .nil)
def c91:VC:=⟨⟨[],[]⟩,[(128,[none])],[(1,[⟨[(6,.slx 0 0 0),(3,.ptr 1 0),(0,.slx 2 7 1)],[(1,[65,66,67,68,69,70,71,72,73,74,75,76,77,78,79,80,81,82,83,84,85,86,87,88,89,90,91])],3,2,[⟨2,7,1,0,none⟩],[],[]⟩])],0,true,[(56,ft56)]⟩
def t91:VT:=Li Z8 [64] 92<|Iq 65 1 93 (.call 128 [.agg [76,77,78,79,80,81,82,83,84,85]] 94 [none]<|Li Qs [64,94] 95<|Iq 66 3 96 (Li Qa [75,J 0] 97<|.lt Qd [97] 98 (some 10)<|.call 128 [.agg [98,99,100,101,102,103,104,105,106,107]] 108 [none]<|.chk (.pos 108)<|Li Qs [95,108] 109<|Li Qs [109,.vsl 1 7 [J 19,J 0,70,71,J 0,J 0,.flt .f64 0]] 110<|Dn [110])<|Li Qs [95,.agg [J 18,J 0,70,J 0,J 0,J 0,.flt .f64 0]] 97<|Dn [97])<|Iq 65 4 94 (.loop 95 0 [J 0,64] (.cons 2 (Li Qe [91] 97<|It Q4 [95,97] 98 (Li Qa [91,95] 99<|.lt Qd [99] 100 (some 10)<|.call 128 [.agg [100,101,102,103,104,105,106,107,108,109]] 110 [none]<|Li Qs [96,110] 111<|Li Q2 [95,J 1] 112<|.again 0 0 [112,111])<|Li Qe [91] 99<|Li Qs [96,.agg [J 22,89,90,99,J 0,J 0,.flt .f64 0]] 100<|Dn [100]) .nil))<|.call 128 [.agg [76,77,78,79,80,81,82,83,84,85]] 95 [none]<|Li Qs [64,95] 96<|Li Z8 [96] 97<|Li Qs [96,.agg [J 21,J 0,J 0,J 0,J 0,J 0,.flt .f64 0]] 98<|Cf 56 ft56 [98,86] 99 1<|Iq 65 3 102 (Li Qs [101,.agg [J 20,J 0,92,J 0,J 0,J 0,.flt .f64 0]] 103<|Li Z8 [103] 104<|Li Q1 [103,97] 105<|Li Zz [103,105,104] 106<|.chk (.same 103 106)<|Dn [106])<|Li Za [87] 103<|Iq 103 0 104 (Li Z8 [101] 105<|Li Q1 [101,97] 106<|Li Zz [101,106,105] 107<|.chk (.same 101 107)<|Dn [107])<|Li Z8 [101] 105<|Li Qs [101,.agg [J 20,J 0,J 0,J 0,J 0,J 0,.flt .f64 0]] 106<|Li Z8 [106] 107<|Li Q1 [106,97] 108<|Li Zz [106,108,107] 109<|.chk (.same 106 109)<|Cf 56 ft56 [109,87] 110 1<|Li Z8 [112] 113<|Li Q1 [112,105] 114<|Li Zz [112,114,113] 115<|.chk (.same 112 115)<|Dn [115]
def c56:VC:=⟨⟨[],[]⟩,[],[(0,[⟨[(5,.slx 0 0 0),(1,65),(0,.slx 0 7 1)],[],1,2,[⟨0,7,1,0,none⟩],[],[]⟩])],0,true,[(91,ft91)]⟩
def t56:VT:=.loop 66 0 [J 0,64] (.cons 2 (Li Za [65] 68<|It Q4 [66,68] 69 (Li Qx [65,66] 70<|.lt Zq [70] 71 (some 27)<|Cf 91 ft91 [67,71,72,73,74,75,76,77,78,79,80,81,82,83,84,85,86,87,88,89,90,91,92,93,94,95,96,97] 98 1<|Li Q2 [66,J 1] 127<|.again 0 0 [127,126])<|Dn [67]) .nil)
def c28:VC:=⟨⟨[],[]⟩,[],[],0,true,[(56,ft56)]⟩
def t28:VT:=Cf 56 ft56 [.nsl,65] 66 1<|Li Qs [68,.agg [J 23,J 0,J 0,J 0,J 0,J 0,.flt .f64 0]] 69<|Li Z8 [69] 70<|It Qc [70,J 400] 71 (.done (.tup [.nsl,J 12]))<|.done (.tup [69,J 0])
theorem zs_ (l:List GI) (i:GI) (hl:l.length<=1000000):(XOp.app 7 56).run Tryz.prog [i_ l,.vsl 1 7 (tS_ i)]=some (i_ (l++[i])):=tC_ (enc:=tS_) yG_ (by decide) (by decide) l [i] (by simp only [List.length_cons,List.length_nil];omega)
theorem vi_ (l q:List GI) (hl:l.length+q.length<=1000000):(XOp.app 7 56).run Tryz.prog [i_ l,i_ q]=some (i_ (l++q)):=tC_ yG_ (by decide) (by decide) l q (by omega)
theorem A4_:∀(d:Nat) (x:GX),d<=10->TX d x->kH_ Tryz.prog 128 [.agg (m_ x)] (i_ (B_ x))
 |0,_,_,h=>h.elim
 |d+1,.mk op kd nm fd ad n vk vi vf args,hd,hx=>by
  have hge:=v5_ hx;have hp:2^(d+1)<=2^10:=Nat.pow_le_pow_right (by decide) hd;have hgl:(B_ (.mk op kd nm fd ad n vk vi vf args)).length=(j_ args).length+1:=(by simp only [B_,List.length_append,List.length_cons,List.length_nil]);obtain ⟨h1,_,_,_,_,h6⟩:=hx;have hal:args.length<=2:=(by unfold Ari at h1;omega);have hE:∀i,(j_ (args.take i)).length<=(j_ args).length:=λi=>(by have:=congrArg List.length (tZ_ (args.take i) (args.drop i));rw [List.take_append_drop,List.length_append]at this;omega);refine t6_ (sh:=[some 10]) (ls:=m_ (.mk op kd nm fd ad n vk vi vf args)) (c:=c128) (n:=300) (t:=Cq_) mo ov rfl (okX _) (p6_ (okI _)) (λY _=>vC_ _) rfl (by kernel_rfl) λY hf hg=>?_;unfold Cq_
  (refine a_ rfl rfl ?_ ?_<;>intro h<;>simp only [nc]at h<;>try omega)
  .obtain rfl:args=[]:=by
     cases args with
     |nil=>rfl
     |cons a r=>unfold Ari at h1;simp only [List.length_cons]at h1;omega
   subst h;exact uH_ rfl
  (refine a_ rfl rfl ?_ ?_<;>intro h<;>simp only [nc]at h<;>try omega)
  .obtain rfl:args=[]:=by
     cases args with
     |nil=>rfl
     |cons a r=>unfold Ari at h1;simp only [List.length_cons]at h1;omega
   subst h;exact uH_ rfl
  refine uI_ (ι:=Nat) (λi=>[.int .i64 (i:Int),i_ (j_ (args.take i))]) (λi=>i<=args.length) (λi=>args.length-i) 0 (Nat.zero_le _) (by simp [j_];rfl) (λi _=>by simp only [okL,okC,okI]) (λi j _ _ h=>by simp at h;omega) (λi hi=>?_);refine vv_ (t_ args) rfl ?_
  (refine a_ rfl rfl ?_ ?_<;>intro h<;>simp only [nc]at h<;>try omega)
  have hi:i<args.length:=(by omega);have hld:=es_ args hi;have hg:j_ (args.take (i+1))=j_ (args.take i)++B_ args[i]:=(by rw [List.take_succ_eq_append_getElem hi,tZ_];simp only [j_,List.append_nil]);have hz:=A4_ d args[i] (by omega) (h6 _ (List.getElem_mem hi));have hl:(j_ (args.take i)).length+(B_ args[i]).length<=1000000:=(by have:=hE (i+1);rw [hg,List.length_append]at this;omega);rcases hzz:args[i]with ⟨zo,zk,znm,zfd,zad,zn,zvk,zvi,zvf,za⟩;rw [hzz]at hld hz hg hl;refine vv_ (b8_ args hi) (kS_ okX _) (vf_ hld rfl (okX _) (uG_ hz rfl (by simp only [okL,okI]) (vv_ (vi_ _ _ hl) (okI _) ?_)));exact vv_ (g_ (by omega) (by omega)) rfl (uu_ rfl ⟨i+1,hi,by rw [hg];rfl,by omega⟩);have hi:i=args.length:=(by omega);subst hi;rw [List.take_length];have hlen:(j_ args).length<=1000000:=(by omega);have fin:∀i:GI,v6_ op kd ad n vk vi vf args=i->i_ (j_ args++[i])=i_ (B_ (.mk op kd nm fd ad n vk vi vf args)):=λi hi=>by simp only [B_,hi]
  (refine a_ rfl rfl ?_ ?_<;>intro h<;>simp only [nc]at h<;>try omega)
  exact vv_ (R_ _ (v_ 3 0 ad n) hlen) (okI _) (uH_ (fin _ (by unfold v6_;rw [if_neg (by omega),if_neg (by omega),if_pos h])));have h0:1<=args.length:=(by unfold Ari at h1;omega);obtain ⟨y,r,rfl⟩:∃y r,args=y::r:=by
   cases args with
   |nil=>simp at h0
   |cons y r=>exact ⟨y,r,rfl⟩
  obtain ⟨y1,y2,y3,y4,y5,y6,y7,y8,y9,y10⟩:=y
  (refine a_ rfl rfl ?_ ?_<;>intro h<;>simp only [nc]at h<;>try omega)
  refine vv_ (r:=.vptr (m_ (.mk y1 y2 y3 y4 y5 y6 y7 y8 y9 y10)++uW_ r)) rfl (by show okL _=true;exact kS_.okL_join (okX _) (xH_ _)) ?_;refine vv_ (r:=.vptr ([.int .i64 y2,.str y3,.str y4,.int .i64 y5,.int .i64 y6,.int .i64 y7,.int .i64 y8,.flt .f64 y9,T_ y10]++uW_ r)) rfl (by show okL _=true;exact kS_.okL_join (by simp only [okC,okL,okA]) (xH_ _)) (vv_ (r:=.int .i64 y2) rfl rfl ?_);exact vv_ (R_ _ (v_ 17 kd 0 y2) hlen) (okI _) (uH_ (fin _ (by unfold v6_;rw [if_neg (by omega),if_neg (by omega),if_neg (by omega),if_pos (by assumption)];rfl)));refine vv_ (r:=.vptr (m_ (.mk y1 y2 y3 y4 y5 y6 y7 y8 y9 y10)++uW_ r)) rfl (by show okL _=true;exact kS_.okL_join (okX _) (xH_ _)) ?_;refine vv_ (r:=.vptr ([.int .i64 y2,.str y3,.str y4,.int .i64 y5,.int .i64 y6,.int .i64 y7,.int .i64 y8,.flt .f64 y9,T_ y10]++uW_ r)) rfl (by show okL _=true;exact kS_.okL_join (by simp only [okC,okL,okA]) (xH_ _)) (vv_ (r:=.int .i64 y2) rfl rfl ?_);exact vv_ (R_ _ (v_ op y2 0 0) hlen) (okI _) (uH_ (fin _ (by unfold v6_;rw [if_neg (by omega),if_neg (by omega),if_neg (by omega),if_neg (by assumption)];rfl)))
theorem AH_ {x:GX} (h:TX 5 x):kH_ Tryz.prog 128 [.agg (m_ x)] (i_ (B_ x)):=A4_ 5 x (by decide) h
theorem A9_ {Y:Sy} {i:Nat} {l:List GI} (h:Y.v i=some (i_ l)) (hl:0<l.length):(Chk.pos i).ok Y:=by
 cases l with
 |nil=>simp at hl
 |cons a r=>exact ⟨_,_,_,h⟩
theorem y3_ (x:GX):0<(B_ x).length:=by cases x;simp [B_]
def P23 (d:Nat):Prop:=∀(x:List GS) (l:List GI),x.length<=5->(∀s∈x,TS d s)->l.length+(h_ l.length x).length<=900000->CF Tryz.prog 56 ft56 [i_ l,P_ x] (R24 (l++h_ l.length x))
theorem p91 (d:Nat) (hT:∀e,d=e+1->P23 e):∀(s:GS) (l:List GI),TS d s->l.length+(sU_ l.length s).length<=900000->CF Tryz.prog 91 ft91 (i_ l::pY_ s) (R24 (l++sU_ l.length s)):=by
 intro s l hs hl;rcases d with _|d;exact hs.elim;have hT:=hT d rfl;obtain ⟨op,to,e,thn,els,nm,kd,ad,args⟩:=s;obtain ⟨gl,hgl⟩:∃gl,gl=sU_ l.length (.mk op to e thn els nm kd ad args):=⟨_,rfl⟩;rw [←hgl]at hl⊢;obtain ⟨c,hc⟩:∃c,c=B_ e:=⟨_,rfl⟩;obtain ⟨to1,to2,to3,to4,to5,to6,to7,to8,to9,to10⟩:=to;obtain ⟨e1,e2,e3,e4,e5,e6,e7,e8,e9,e10⟩:=e;refine vh_ (c:=c91) (n:=300) (t:=t91) mo ov rfl (λY _=>vC_ _) (by kernel_rfl) λY hf hg=>?_;unfold t91;refine vv_ (O_ _) rfl ?_;rcases hs with ⟨rfl,a1,a2,a3,a4,_⟩|⟨ho,b1,b2,b3,b4,b5,b6⟩|⟨rfl,c1,c2,_⟩
 .have hk:=A4_ 6 _ (by decide) a3;rw [←hc]at hk;have hgen:gl=c++vT_ (.mk to1 to2 to3 to4 to5 to6 to7 to8 to9 to10):=(by rw [hgl,hc];simp [sU_]);subst hgen;clear hgl;simp only [GX.op]at a2;simp only [vT_]at hl⊢;rw [List.length_append]at hl
  (refine a_ rfl rfl ?_ ?_<;>intro h<;>simp only [nc]at h<;>try omega)
  refine uG_ hk rfl (by simp only [okL,okI]) (vv_ (vi_ _ _ (by omega)) (okI _) ?_)
  (refine a_ rfl rfl ?_ ?_<;>intro h<;>simp only [nc]at h<;>try omega)
  .rw [if_pos h]at hl⊢;have hw:=a1.1;obtain ⟨y,rfl⟩:∃y,to10=[y]:=by
    cases to10 with
    |nil=>unfold Ari at hw;simp only [List.length_nil]at hw;omega
    |cons y r=>
     cases r with
     |nil=>exact ⟨y,rfl⟩
     |cons z r=>unfold Ari at hw;simp only [List.length_cons]at hw;omega
   have hy:=AH_ (xk_ (by decide) (a1.2.2.2.2.2 y (List.mem_cons_self ..)));have hpos:=y3_ y;simp only [j_,List.append_nil,List.length_append,List.length_cons,List.length_nil]at hl⊢;have hld:=es_ [y] (i:=0) (by simp);obtain ⟨gy,hgy⟩:∃gy,gy=B_ y:=⟨_,rfl⟩;rw [←hgy]at hl hy hpos⊢;obtain ⟨y1,y2,y3,y4,y5,y6,y7,y8,y9,y10⟩:=y;refine vv_ (b8_ [_] (i:=0) (by simp)) (kS_ okX _) (vf_ hld rfl (okX _) (uG_ hy rfl (by simp only [okL,okI]) (vd_ (A9_ rfl hpos) ?_)));refine vv_ (vi_ _ _ (by simp only [List.length_append];omega)) (okI _) (vv_ (zs_ _ (v_ 19 0 to5 to6) (by simp only [List.length_append];omega)) (okI _) (VOK_fin (x0_ _) ?_));exact congrArg (λz=>[i_ z]) (by simp only [List.append_assoc])
  rw [if_neg h]at hl⊢;simp only [List.length_cons,List.length_nil]at hl;refine vv_ (R_ _ (v_ 18 0 to5 0) (by simp only [List.length_append];omega)) (okI _) (VOK_fin (x0_ _) ?_);exact congrArg (λz=>[i_ z]) (List.append_assoc ..)
 .have hk:=AH_ b1;rw [←hc]at hk;obtain ⟨t,ht⟩:∃t,t=h_ (l.length+c.length+1) thn:=⟨_,rfl⟩;obtain ⟨q,hq⟩:∃q,q=h_ (l.length+c.length+1+t.length+1) els:=⟨_,rfl⟩;have hlc:l.length+c.length+1+t.length<=900000:=by
   rcases ho with rfl|rfl
   .have hgen:gl=if els=[]then c++[v_ 21 0 ((l.length+c.length+1+t.length:Nat):Int) 0]++t else c++[v_ 21 0 ((l.length+c.length+1+t.length+1:Nat):Int) 0]++t++[v_ 20 0 ((l.length+c.length+1+t.length+1+q.length:Nat):Int) 0]++q:=by rw [hgl,hq,ht,hc];simp [sU_]
    rw [hgen]at hl;split at hl<;>simp only [List.length_append,List.length_cons,List.length_nil]at hl<;>omega
   have hgen:gl=c++[v_ 21 0 ((l.length+c.length+1+t.length+1:Nat):Int) 0]++t++[v_ 20 0 (l.length:Int) 0]:=(by rw [hgl,ht,hc];simp [sU_]);rw [hgen]at hl;simp only [List.length_append,List.length_cons,List.length_nil]at hl;omega
  have k3:=hT thn (l++c++[v_ 21 0 0 0]) b3 b5 (by simp only [List.length_append,List.length_cons,List.length_nil,Nat.zero_add];rw [←ht];omega);have e0:(l++c++[v_ 21 0 0 0]).length=l.length+c.length+1:=(by simp only [List.length_append,List.length_cons,List.length_nil]);rw [e0,←ht,List.append_assoc (l++c)]at k3;have hlc1:(l++c).length=l.length+c.length:=List.length_append
  (refine a_ rfl rfl ?_ ?_<;>intro h<;>simp only [nc]at h<;>try omega)
  (refine a_ rfl rfl ?_ ?_<;>intro h<;>simp only [nc]at h<;>try omega)
  refine uG_ hk rfl (by simp only [okL,okI]) (vv_ (vi_ _ _ (by omega)) (okI _) (vv_ (O_ _) rfl (vv_ (R_ _ (v_ 21 0 0 0) (by omega)) (okI _) ?_)));refine b_ k3 rfl (BU_ _ _) ⟨?_,trivial⟩;rintro ws rfl
  (refine a_ rfl rfl ?_ ?_<;>intro h<;>simp only [nc]at h<;>try omega)
  have h3:op=3:=h;subst h3;have hgen:gl=c++[v_ 21 0 ((l.length+c.length+1+t.length+1:Nat):Int) 0]++t++[v_ 20 0 (l.length:Int) 0]:=(by rw [hgl,ht,hc];simp [sU_]);subst hgen;have e2:l++c++([v_ 21 0 0 0]++t)++[v_ 20 0 (l.length:Int) 0]=l++c++([v_ 21 0 0 0]++(t++[v_ 20 0 (l.length:Int) 0])):=(by simp only [List.append_assoc]);have ka:=R_ (l++c++([v_ 21 0 0 0]++t)) (v_ 20 0 (l.length:Int) 0) (by simp only [List.length_append,List.length_cons,List.length_nil];omega);rw [e2]at ka;refine vv_ ka (okI _) (vv_ (O_ _) rfl (vv_ (wi_ (i:=(l++c).length) (by simp) .i64) rfl (vv_ (wj_ (l++c) 21 (t++[v_ 20 0 (l.length:Int) 0]) _) (okI _) (vd_ (wJ_ rfl rfl (by simp)) (VOK_fin (x0_ _) ?_)))));refine congrArg (λz=>[i_ z]) ?_;simp only [List.append_assoc,List.length_append,List.length_cons,List.length_nil];have x1:l.length+(c.length+(0+1+(t.length+(0+1))))=l.length+c.length+1+t.length+1:=(by omega);rw [x1];have h2:op=2:=(by omega);subst h2;have hgen:gl=if els=[]then c++[v_ 21 0 ((l.length+c.length+1+t.length:Nat):Int) 0]++t else c++[v_ 21 0 ((l.length+c.length+1+t.length+1:Nat):Int) 0]++t++[v_ 20 0 ((l.length+c.length+1+t.length+1+q.length:Nat):Int) 0]++q:=by rw [hgl,hq,ht,hc];simp [sU_]
  subst hgen;refine vv_ (wu_ els) rfl ?_
  (refine a_ rfl rfl ?_ ?_<;>intro h<;>simp only [nc]at h<;>try omega)
  .have hne:els=[]:=by
     cases els with
     |nil=>rfl
     |cons a r=>simp at h;omega
   rw [if_pos hne];refine vv_ (O_ _) rfl (vv_ (wi_ (i:=(l++c).length) (by simp) .i64) rfl (vv_ (wj_ (l++c) 21 t _) (okI _) (vd_ (wJ_ rfl rfl (by simp)) (VOK_fin (x0_ _) ?_))));refine congrArg (λz=>[i_ z]) ?_;simp only [List.append_assoc,List.length_append,List.length_cons,List.length_nil];have x1:l.length+(c.length+(0+1+t.length))=l.length+c.length+1+t.length:=(by omega);rw [x1]
  have hne:els≠[]:=λe=>(by subst e;simp at h);rw [if_neg hne]at hl⊢;simp only [List.length_append,List.length_cons,List.length_nil]at hl;have e2:l++c++([v_ 21 0 0 0]++t)++[v_ 20 0 0 0]=l++c++([v_ 21 0 0 0]++(t++[v_ 20 0 0 0])):=(by simp only [List.append_assoc]);have ka:=R_ (l++c++([v_ 21 0 0 0]++t)) (v_ 20 0 0 0) (by simp only [List.length_append,List.length_cons,List.length_nil];omega);rw [e2]at ka;refine vv_ (O_ _) rfl (vv_ ka (okI _) ?_);refine vv_ (O_ _) rfl (vv_ (wi_ (i:=(l++c).length) (by simp) .i64) rfl (vv_ (wj_ (l++c) 21 (t++[v_ 20 0 0 0]) _) (okI _) (vd_ (wJ_ rfl rfl (by simp)) ?_)));have e5':(l++c++([v_ 21 0 0 0]++(t++[v_ 20 0 0 0]))).length=l.length+c.length+1+t.length+1:=(by simp only [List.length_append,List.length_cons,List.length_nil];omega);have k5:=hT els (l++c++([v_ 21 0 ((l++c++([v_ 21 0 0 0]++(t++[v_ 20 0 0 0]))).length:Int) 0]++(t++[v_ 20 0 0 0]))) b4 b6 (by simp only [List.length_append,List.length_cons,List.length_nil];rw [show l.length+c.length+(0+1+(t.length+(0+1)))=l.length+c.length+1+t.length+1 by omega,←hq];omega);have e6':(l++c++([v_ 21 0 ((l++c++([v_ 21 0 0 0]++(t++[v_ 20 0 0 0]))).length:Int) 0]++(t++[v_ 20 0 0 0]))).length=l.length+c.length+1+t.length+1:=(by simp only [List.length_append,List.length_cons,List.length_nil];omega);rw [e6',←hq]at k5;have e7':l++c++([v_ 21 0 ((l++c++([v_ 21 0 0 0]++(t++[v_ 20 0 0 0]))).length:Int) 0]++(t++[v_ 20 0 0 0]))++q=(l++c++([v_ 21 0 ((l++c++([v_ 21 0 0 0]++(t++[v_ 20 0 0 0]))).length:Int) 0]++t))++([v_ 20 0 0 0]++q):=(by simp only [List.append_assoc]);rw [e7']at k5;refine b_ k5 rfl (BU_ _ _) ⟨?_,trivial⟩;rintro ws rfl;have e8':(((l++c++([v_ 21 0 0 0]++t)).length:Nat):Int)=(((l++c++([v_ 21 0 ((l++c++([v_ 21 0 0 0]++(t++[v_ 20 0 0 0]))).length:Int) 0]++t)).length:Nat):Int):=(by simp only [List.length_append,List.length_cons,List.length_nil]);refine vv_ (O_ _) rfl (vv_ (r:=.int .i64 (((l++c++([v_ 21 0 ((l++c++([v_ 21 0 0 0]++(t++[v_ 20 0 0 0]))).length:Int) 0]++t)).length:Nat):Int)) (by rw [←e8'];exact wi_ (i:=(l++c++([v_ 21 0 0 0]++t)).length) (by simp) .i64) rfl (vv_ (wj_ _ 20 q _) (okI _) (vd_ (wJ_ rfl rfl (by simp)) (VOK_fin (x0_ _) ?_))));refine congrArg (λz=>[i_ z]) ?_;rw [e5'];simp only [List.append_assoc,List.length_append,List.length_cons,List.length_nil];have x1:l.length+(c.length+(0+1+(t.length+(0+1+q.length))))=l.length+c.length+1+t.length+1+q.length:=(by omega);rw [x1]
 .have hgen:gl=j_ args++[v_ 22 kd ad (args.length:Int)]:=(by rw [hgl];simp [sU_]);subst hgen;clear hgl;simp only [List.length_append,List.length_cons,List.length_nil]at hl;have hal:args.length<=2:=(by rcases c1 with ⟨_,_,c1⟩|⟨_,_,c1⟩|⟨_,_,c1⟩<;>(have:=congrArg List.length c1;simp at this;omega));have hE:∀i,(j_ (args.take i)).length<=(j_ args).length:=λi=>by have:=congrArg List.length (tZ_ (args.take i) (args.drop i));rw [List.take_append_drop,List.length_append]at this;omega
  (refine a_ rfl rfl ?_ ?_<;>intro h<;>simp only [nc]at h<;>try omega)
  (refine a_ rfl rfl ?_ ?_<;>intro h<;>simp only [nc]at h<;>try omega)
  refine uI_ (ι:=Nat) (λi=>[.int .i64 (i:Int),i_ (l++j_ (args.take i))]) (λi=>i<=args.length) (λi=>args.length-i) 0 (Nat.zero_le _) (by simp [j_];rfl) (λi _=>by simp only [okL,okC,okI]) (λi j _ _ h=>by simp at h;omega) (λi hi=>?_);refine vv_ (t_ args) rfl ?_
  (refine a_ rfl rfl ?_ ?_<;>intro h<;>simp only [nc]at h<;>try omega)
  have hi:i<args.length:=(by omega);have hld:=es_ args hi;have hg:j_ (args.take (i+1))=j_ (args.take i)++B_ args[i]:=(by rw [List.take_succ_eq_append_getElem hi,tZ_];simp only [j_,List.append_nil]);have hz:=AH_ (c2 _ (List.getElem_mem hi));have hl2:(l++j_ (args.take i)).length+(B_ args[i]).length<=1000000:=(by have:=hE (i+1);rw [hg,List.length_append]at this;rw [List.length_append];omega);rcases hzz:args[i]with ⟨zo,zk,znm,zfd,zad,zn,zvk,zvi,zvf,za⟩;rw [hzz]at hld hz hg hl2;refine vv_ (b8_ args hi) (kS_ okX _) (vf_ hld rfl (okX _) (uG_ hz rfl (by simp only [okL,okI]) (vv_ (vi_ _ _ hl2) (okI _) ?_)));refine vv_ (g_ (by omega) (by omega)) rfl (uu_ rfl ⟨i+1,hi,?_,by omega⟩);rw [hg,←List.append_assoc];rfl;have hi:i=args.length:=(by omega);subst hi;rw [List.take_length];refine vv_ (t_ args) rfl (vv_ (R_ _ (v_ 22 kd ad (args.length:Int)) (by rw [List.length_append];omega)) (okI _) (VOK_fin (x0_ _) ?_));exact congrArg (λz=>[i_ z]) (List.append_assoc ..)
theorem p56 (d:Nat) (hT:∀e,d=e+1->P23 e):P23 d:=by
 intro x l hx5 hx hl;refine vh_ (c:=c56) (n:=300) (t:=t56) mo ov rfl (λY _=>vC_ _) (by kernel_rfl) λY hf hg=>?_;unfold t56;refine uI_ (ι:=Nat) (λi=>[.int .i64 (i:Int),i_ (l++h_ l.length (x.take i))]) (λi=>i<=x.length) (λi=>x.length-i) 0 (Nat.zero_le _) (by simp [h_];rfl) (λi _=>by simp only [okL,okC,okI]) (λi j _ _ h=>by simp at h;omega) (λi hi=>?_);refine vv_ (wu_ x) rfl ?_
 (refine a_ rfl rfl ?_ ?_<;>intro h<;>simp only [nc]at h<;>try omega)
 have hi:i<x.length:=(by omega);have hg:=xY_ l.length x hi;have hle:=y5_ l.length x (i+1);have hz:=p91 d hT x[i] (l++h_ l.length (x.take i)) (hx _ (List.getElem_mem hi)) (by rw [hg,List.length_append]at hle;rw [List.length_append];omega);have hld:=xM_ x hi;rw [List.length_append]at hz;rcases hzz:x[i]with ⟨z1,⟨a1,a2,a3,a4,a5,a6,a7,a8,a9,a10⟩,⟨b1,b2,b3,b4,b5,b6,b7,b8,b9,b10⟩,z4,z5,z6,z7,z8,z9⟩;rw [hzz]at hld hz hg;refine vv_ (xL_ x hi) (kS_ okS _) (vf_ hld rfl (okS _) ?_);refine b_ hz rfl (DJ_ _ _) ⟨?_,trivial⟩;rintro ws rfl;refine vv_ (g_ (by omega) (by omega)) rfl (uu_ rfl ⟨i+1,hi,?_,by omega⟩);rw [hg,←List.append_assoc];rfl;have hi:i=x.length:=(by omega);subst hi;rw [List.take_length];exact VOK_fin (x0_ _) rfl
theorem ya_:∀d,P23 d
 |0=>p56 0 λe h=>by omega
 |d+1=>p56 (d+1) λe h=>by have:d=e:=(by omega);subst this;exact ya_ d
theorem p28 {d:Nat} {v:AV} (hv:okC v=true) {x:List GS} (h5:x.length<=5) (hx:∀s∈x,TS d s) (hl:(h_ 0 x).length<=900000):kH_ Tryz.prog 28 [.agg [v,P_ x]] (xJ_ x):=by
 have h:CF Tryz.prog 56 ft56 [.nsl,P_ x] (R24 (h_ 0 x)):=ya_ d x [] h5 hx (by simpa using hl);refine t6_ (sh:=[some 2]) (ls:=[v,P_ x]) (c:=c28) (n:=300) (t:=t28) mo ov rfl (by simp only [okL,hv,okB]) (AX_ x) (λY _=>vC_ _) rfl (by kernel_rfl) λY hf hg=>?_;unfold t28;refine b_ h rfl (by simp only [okL,okC,okB]) ⟨?_,trivial⟩;rintro ws rfl;refine vv_ (R_ _ (v_ 23 0 0 0) (by omega)) (okI _) (vv_ (O_ _) rfl ?_);have hg:h_ 0 x++[v_ 23 0 0 0]=qn_ x:=rfl;rw [hg]
 (refine a_ rfl rfl ?_ ?_<;>intro h<;>simp only [nc]at h<;>try omega)
 refine uH_ ?_;unfold xJ_ pl pe;rw [if_neg (by omega),if_neg (by omega)];rfl;refine uH_ ?_;unfold xJ_ pl pe;rw [if_pos (by omega),if_pos (by omega)];rfl
end Go.Proofs.YtjconanknjgpnaaGreat.vars
