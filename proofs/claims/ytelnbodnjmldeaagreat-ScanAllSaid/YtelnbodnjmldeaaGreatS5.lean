/-
  Why instructions may not be: the program's word.
-/
import Derived.Test.YtelnbodnjmldeaaGreatYK
import Derived.Test.YtelnbodnjmldeaaGreatFA
import Derived.Test.YtelnbodnjmldeaaGreatWI
import Derived.Test.YtelnbodnjmldeaaGreatXB
import Derived.KernelRfl
set_option linter.all false
set_option maxHeartbeats 1000000
set_option maxRecDepth 100000
open Nat renaming zero_le→za',le_refl→zb',not_lt_zero→zf'
open List renaming ext_getElem→zc',mem_cons_self→zd',getElem_mem→zg',mem_cons_of_mem→zi'
open Int renaming toNat_of_nonneg→ze',natCast_nonneg→zh'
namespace Go.Proofs.YtelnbodnjmldeaaGreat.vars
open Go Go.Sx
def Dd (l:List GI):Prop:=0<l.length/\l.length<=400/\(∀g∈l,g.May)/\∀h:l.length-1<l.length,l[l.length-1].op=23
def Dd.form {l:List GI} {cells:Int} (h:Dd l) (hp:∀g∈l,g.Plc l.length cells):DP l cells:=⟨h.1,h.2.1,h.2.2.1,h.2.2.2,hp⟩
structure Hy (l:List GI) (cells e:Int):Prop where
 a:¬Dd l->e=2
 b:Dd l->(¬∀g∈l,g.Plc l.length cells)->e=6
 c:DP l cells->(m_ l).Full->e=12
 d:DP l cells->¬(m_ l).Full->(m_ l).Two->e=4
 f:DP l cells->¬(m_ l).Full->¬(m_ l).Two->e=0
theorem DP.a {l:List GI} {cells:Int} (h:DP l cells):Dd l:=⟨h.n1,h.n4,h.may,h.last⟩
def Jr (x:GI) (r:List AV):(XOp.faddr 68 0).run Tryz.prog [.vptr (k_ x++r)]=some (.vptr (.int .i64 x.op::([.int .i64 x.kd,.int .i64 x.ad,.int .i64 x.n,.int .i64 x.vk,.int .i64 x.vi,.flt .f64 x.vf]++r))):=by kernel_rfl
def mp (x:GI) (r:List AV):(XOp.faddr 68 2).run Tryz.prog [.vptr (k_ x++r)]=some (.vptr (.int .i64 x.ad::([.int .i64 x.n,.int .i64 x.vk,.int .i64 x.vi,.flt .f64 x.vf]++r))):=by kernel_rfl
def Hl (a:List AV) (ha:Ak a=true) (l:List GI):Ak (a++Ay k_ l)=true:=A9.okL_join ha (A9 BM l)
def wH {l:List GI} {i:Nat} (h:i<l.length):Ay k_ (l.drop i)=k_ l[i]++Ay k_ (l.drop (i+1)):=by rw [C7 h];rfl
def HN {l:List GI} {x:AV} (hx:SlV k_ 7 l x) {i:Nat} (h:i<l.length):(XOp.iaddr 30).run Tryz.prog [x,.int .i64 (i:Int)]=some (.vptr (k_ l[i]++Ay k_ (l.drop (i+1)))):=by rw [←wH h];exact IF hx h
def HF (g:GI) (l:List GI):okC (.vptr (k_ g++Ay k_ l))=true:=Hl _ (BM g) l
def Ir (x:Int) (r:List AV):(XOp.load 3).run Tryz.prog [.vptr (.int .i64 x::r)]=some (.int .i64 x):=Wx Tryz.underlying3 rfl _ _
def kn {p:Prop} {i:Decidable p} (h: @decide p i=true):p:= @of_decide_eq_true p i h
def ZC {p:Prop} {i:Decidable p} (h: @decide p i=false):¬p:= @of_decide_eq_false p i h
def te {l:List GI} {x:AV} (hx:SlV k_ 7 l x) (hl:l.length<=1000000) {cells e:Int} (hv:Hy l cells e):AJ 30 [x,.int .i64 cells] (.int .i64 e):=by
 have okx:=hx.ok BM;refine Jb (sh:=[none,none]) (ls:=[x,.int .i64 cells]) (c:=qc) (n:=300) (t:=lD) mo ov (by rcases hx with rfl|⟨_,rfl⟩<;>rfl) (by simp only [Ak,okC,okx]) rfl (λY _=>Cn _) rfl (by kernel_rfl) λY hf hg'=>?_;unfold lD;refine Aa (Fp hx) rfl (Aa (Am ..) rfl (Ax rfl (λh0=>Ap (iK (hv.a ?_)).symm) (λh0=>?_)));rintro ⟨h1,_⟩;have h0:(l.length:Int)=0:=dT h0;omega;have h0:¬(l.length:Int)=0:=dF h0;refine Aa (Fp hx) rfl (Aa (Bc ..) rfl (Ax rfl (λh4=>Ap (iK (hv.a ?_)).symm) (λh4=>?_)));rintro ⟨_,h1,_⟩;have h4:(400:Int)<(l.length:Int):=dT h4;omega;have h4:¬(400:Int)<(l.length:Int):=dF h4;refine Aq (C1 hx hl) rfl (by simp only [Ak,okC,R_,okx]) (Ax rfl (λhm=>Ap (iK (hv.a ?_)).symm) (λhm=>?_));rintro ⟨_,_,h1,_⟩;exact dT hm h1;have hm:∀g∈l,g.May:=Classical.not_not.1 (dF hm);have hl1:l.length-1<l.length:=by omega
 have em:IntKind.i64.wrap ((l.length:Int)-1)=((l.length-1:Nat):Int):=by rw [CS (by omega) (by omega)];omega
 refine Aa (Fp hx) rfl (Aa (r:=.int .i64 ((l.length-1:Nat):Int)) (by rw [←em];exact Bn ..) rfl (Aa (HN hx hl1) (HF _ _) (Aa (Jr ..) (Hl _ rfl _) (Aa (Ir ..) rfl (Aa (Al ..) rfl (Ax rfl (λh23=>Ap (iK (hv.a ?_)).symm) (λh23=>?_)))))));rintro ⟨_,_,_,h1⟩;have h23:(!decide (l[l.length-1].op=23))=true:=h23;rw [h1 hl1]at h23;cases h23;have h23:(!decide (l[l.length-1].op=23))=false:=h23;have hA:Dd l:=⟨by omega,by omega,hm,λ_=>by simpa using h23⟩;refine Aq (C2 hx hl hm cells) rfl (by simp only [Ak,okC,R_,okx]) (Ax rfl (λhp=>Ap (iK (hv.b hA (dT hp))).symm) (λhp=>?_));have hp:∀g∈l,g.Plc l.length cells:=Classical.not_not.1 (dF hp);have hF:=hA.form hp;refine Aq (xr hF hx) rfl (by simp only [Ak,okC,okx]) (Ax rfl (λh1=>Ap (iK (hv.c hF (kn h1))).symm) (λh1=>Ax rfl (λh2=>Ap (iK (hv.d hF (ZC h1) (kn h2))).symm) (λh2=>Ap (iK (hv.f hF (ZC h1) (ZC h2))).symm)))
def xd:VC:=⟨⟨[],[]⟩,[(77,[none]),(78,[none]),(79,[none,none])],[(0,[⟨[(5,.slx 0 0 0),(0,64),(1,65),(6,.slx 1 0 0)],[],0,2,[],[],[]⟩]),(2,[⟨[(7,.slx 0 17 0),(0,64),(8,.slx 1 2 1)],[],2,2,[⟨0,17,0,7,none⟩,⟨1,2,1,8,none⟩],[],[]⟩]),(4,[⟨[(7,.ptx 0 83 17 0),(13,.slx 0 0 0),(0,64)],[],1,1,[],[],[(0,83)]⟩]),(6,[⟨[(15,.slx 0 0 0),(14,.slx 1 0 0),(13,.slx 2 0 0),(7,.ptx 0 83 17 0),(0,64)],[],1,3,[],[],[(0,83)]⟩])],0,true,[]⟩
def dc:VT:=Li Qi [64] 66<|It Qa [66,J 1] 67 (.done (J 2))<|Li Qi [64] 68<|It Qb [68,J 400] 69 (.done (J 2))<|Li Qi [64] 70<|Li Qj [70,J 1] 71<|Li Qk [64,71] 72<|Li Z4 [72] 73<|Li Qn [73] 74<|It Q1 [74,J 23] 75 (.done (J 2))<|.loop 76 0 [.bool true,J 0] (.cons 2 (Li Qi [64] 78<|It Q5 [77,78] 79 (Li Qk [64,77] 80<|.lt Qy [80] 81 (some 7)<|.call 77 [.agg (Ae 81 7)] 88 [none]<|It Q6 [88] 89 (.done (J 2))<|.ite 76 (Li Qk [64,77] 90<|.lt Qy [90] 91 (some 7)<|Li Qi [64] 98<|.call 78 [.agg (Ae 91 7),98,65] 99 [none]<|Li Q3 [77,J 1] 100<|.again 0 0 [99,100])<|Li Q3 [77,J 1] 90<|.again 0 0 [.bool false,90])<|It Q6 [76] 80 (.done (J 6))<|Li Qi [64] 81<|Li (.mkx 17 17 [.bool false,.bool false,.bool false,.bool false,.bool false,.bool false,.bool false,.bool false,.bool false,.bool false,.bool false,.bool false,.bool false,.bool false,.bool false,.bool false,.bool false]) [81] 82<|.loop 83 0 [82,.vsl 1 2 [J 0,J 0]] (.cons 2 (Li (.len 130) [84] 85<|It Qb [85,J 0] 86 (Li Q2 [84,J 0] 87<|Li (.flat 2 0 1 2) [87,J 0] 88<|Li Qp [84,88] 89<|Li Q2 [84,J 0] 90<|Li (.flat 2 0 1 2) [90,J 1] 91<|Li Qp [84,91] 92<|Li .skx [84,J 1] 93<|Li Q2 [83,89] 94<|Li U8 [94,92] 95<|It (.ldx 4 1 0) [83,95] 96 (.again 1 0 [83,93])<|Li Q2 [83,89] 97<|Li U8 [97,92] 98<|Li (.stx 4 1 0) [83,98,.bool true] 99<|Li Qk [64,89] 100<|.lt Qy [100] 101 (some 7)<|.call 79 [.agg (Ae 101 7)] 108 [none,none]<|It Q5 [92,108] 110 (.done (J 12))<|Li Zg [92,108] 111<|Li Qr [111,109] 112<|It Qb [112,J 16] 113 (.done (J 12))<|Li Zg [92,108] 114<|Li Qr [114,109] 115<|Li Qk [64,89] 116<|Li Z4 [116] 117<|Li Qn [117] 118<|Iq 118 20 119 (Li Qk [64,89] 120<|Li (.faddr 68 2) [120] 121<|Li Qn [121] 122<|Li Za [93,.agg [122,115]] 123<|Li Qk [64,89] 124<|Li Z4 [124] 125<|Li Qn [125] 126<|It Q1 [126,J 20] 127 (Li Qk [64,89] 128<|Li Z4 [128] 129<|Li Qn [129] 130<|It Q1 [130,J 23] 131 (Li Q3 [89,J 1] 132<|Li Za [123,.agg [132,115]] 133<|.chk (.same 83 99)<|.again 1 0 [99,133])<|.chk (.same 83 99)<|.again 1 0 [99,123])<|.chk (.same 83 99)<|.again 1 0 [99,123])<|Li Qk [64,89] 120<|Li Z4 [120] 121<|Li Qn [121] 122<|Iq 122 21 123 (Li Qk [64,89] 124<|Li (.faddr 68 2) [124] 125<|Li Qn [125] 126<|Li Za [93,.agg [126,115]] 127<|Li Qk [64,89] 128<|Li Z4 [128] 129<|Li Qn [129] 130<|It Q1 [130,J 20] 131 (Li Qk [64,89] 132<|Li Z4 [132] 133<|Li Qn [133] 134<|It Q1 [134,J 23] 135 (Li Q3 [89,J 1] 136<|Li Za [127,.agg [136,115]] 137<|.chk (.same 83 99)<|.again 1 0 [99,137])<|.chk (.same 83 99)<|.again 1 0 [99,127])<|.chk (.same 83 99)<|.again 1 0 [99,127])<|Li Qk [64,89] 124<|Li Z4 [124] 125<|Li Qn [125] 126<|It Q1 [126,J 20] 127 (Li Qk [64,89] 128<|Li Z4 [128] 129<|Li Qn [129] 130<|It Q1 [130,J 23] 131 (Li Q3 [89,J 1] 132<|Li Za [93,.agg [132,115]] 133<|.chk (.same 83 99)<|.again 1 0 [99,133])<|.chk (.same 83 99)<|.again 1 0 [99,93])<|.chk (.same 83 99)<|.again 1 0 [99,93])<|.loop 87 0 [J 0] (.cons 1 (Li Qi [64] 88<|It Q5 [87,88] 89 (.loop 90 0 [J 0,J 0,87] (.cons 3 (It Q8 [90,J 16] 93 (Li Q2 [83,92] 94<|Li U8 [94,90] 95<|It (.ldx 4 1 0) [83,95] 96 (Li Q3 [91,J 1] 97<|Li Q3 [90,J 1] 98<|.again 3 0 [98,97,92])<|Li Q3 [90,J 1] 97<|.again 3 0 [97,91,92])<|It Qb [91,J 1] 94 (.done (J 4))<|Li Q3 [92,J 1] 95<|.again 2 0 [95]) .nil))<|.done (J 0)) .nil)) .nil)) .nil)
def En (f:Nat->Bool):List AV:=(List.range 17).map λh=>.bool (f h)
def R6 (f:Nat->Bool):(En f).length=17:=by simp [En]
theorem Wp (f:Nat->Bool):Ak (En f)=true:=rfl
def ba (f:Nat->Bool) {h:Nat} (hh:h<17):(En f)[h]? =some (.bool (f h)):=by simp [En,List.getElem?_map,List.getElem?_range hh]
theorem uq (f:Nat->Bool) (k:Nat):En (λh=>f h||decide (h=k))=(En f).set k (.bool true):=by apply zc';simp [En];intro i h1 h2;simp only [En,List.getElem_map,List.getElem_range,List.getElem_set];by_cases e:k=i;subst e;simp;have e':¬i=k:=λq=>e q.symm;simp [e,e']
def JH (s:List (Nat×Nat)) (i:Nat):Nat->Bool:=λh=>decide ((i,h)∈s)
def I_ (n:Nat) (s:List (Nat×Nat)):List (Nat->Bool):=(List.range n).map (JH s)
theorem Pu (n:Nat) (s:List (Nat×Nat)):(I_ n s).length=n:=by simp [I_]
theorem SB {n:Nat} (s:List (Nat×Nat)) {i:Nat} (h:i<(I_ n s).length):(I_ n s)[i]=JH s i:=by simp [I_]
theorem vD (s:List (Nat×Nat)) (w:Nat×Nat):JH (s++[w]) w.1=λh=>JH s w.1 h||decide (h=w.2):=by
 funext h
 unfold JH;rw [Bool.eq_iff_iff];simp only [DU,PK,AH,Bool.or_eq_true];constructor;rintro (h1|h1);exact .inl h1;exact .inr (congrArg Prod.snd h1);rintro (h1|h1);exact .inl h1;exact .inr (Prod.ext rfl h1)
theorem wZ {n:Nat} (s:List (Nat×Nat)) (w:Nat×Nat):(I_ n s).set w.1 (JH (s++[w]) w.1)=I_ n (s++[w]):=by
 apply zc';simp [I_];intro j h1 h2;simp only [I_,List.getElem_map,List.getElem_range,List.getElem_set];by_cases e:w.1=j;subst e;simp
 .rw [Ab e]
  funext h
  unfold JH;refine decide_eq_decide.2 ⟨λh1=>List.mem_append_left _ h1,λh1=>?_⟩;rcases List.mem_append.1 h1 with h1|h1;exact h1;exact absurd (congrArg Prod.fst (List.mem_singleton.1 h1)).symm e
def cH (s:List (Nat×Nat)) (i:Nat):Nat->Nat
 |0=>0
 |h+1=>cH s i h+(if (i,h)∈s then 1 else 0)
def jw (s:List (Nat×Nat)) (i:Nat):∀n,cH s i n<=n
 |0=>zb' _
 |n+1=>by have:=jw s i n;simp only [cH];split<;>omega
def WY (s:List (Nat×Nat)) (i:Nat) {m:Nat}:∀{n},m<=n->cH s i m<=cH s i n
 |0,h=>by rw [Nat.le_zero.1 h];exact zb' _
 |n+1,h=>by by_cases e:m=n+1;rw [e];exact zb' _;have:=WY s i (m:=m) (n:=n) (by omega);simp only [cH];omega
def eI {s:List (Nat×Nat)} {i:Nat}:∀{n},0<cH s i n->∃h,h<n/\(i,h)∈s
 |0,h=>absurd h (zf' _)
 |n+1,h=>by by_cases hm:(i,n)∈s;exact ⟨n,by omega,hm⟩;simp only [cH,Ab hm]at h;obtain ⟨k,h1,h2⟩:=eI (n:=n) h;exact ⟨k,by omega,h2⟩
def iU {s:List (Nat×Nat)} {i:Nat}:∀{n},1<cH s i n->∃h k,h≠k/\(i,h)∈s/\(i,k)∈s
 |0,h=>absurd h (zf' _)
 |n+1,h=>by by_cases hm:(i,n)∈s;simp only [cH,Ad hm]at h;obtain ⟨k,h1,h2⟩:=eI (n:=n) (s:=s) (i:=i) (by omega);exact ⟨k,n,by omega,h2,hm⟩;simp only [cH,Ab hm]at h;exact iU (n:=n) h
def lR {s:List (Nat×Nat)} {i h k n:Nat} (hk:h<k) (hn:k<n) (h1:(i,h)∈s) (h2:(i,k)∈s):1<cH s i n:=by have a:cH s i (h+1)<=cH s i k:=WY s i hk;have b:cH s i (k+1)<=cH s i n:=WY s i hn;simp only [cH,Ad h1]at a;simp only [cH,Ad h2]at b;omega
def UJ {α β:Type} {e1:α->List AV} {e2:β->List AV} {w:Nat} {Y:Sy} {i j:Nat} {l:List α} {l':List β} (h1:Y.v i=some (Ba e1 w l)) (h2:Y.v j=some (Ba e2 w l')) (h:l.length=l'.length):(Dl.same i j).ok Y:=
 .inr ⟨l.length,w,_,_,h1,by rw [h2];show some (AV.vsl l'.length w _)=_;rw [h]⟩
def qM (l:List (Nat×Nat)):(XOp.len 130).run Tryz.prog [Ba p_ 2 l]=some (.int .i64 (l.length:Int)):=(SlV.v (enc:=p_) (w:=2) l).len Tryz.underlying130
def xf {n:Nat} {s s':List (Nat×Nat)} (h:Ba En 17 (I_ n s)=Ba En 17 (I_ n s')) {w:Nat×Nat} (h1:w.1<n) (h2:w.2<17):(w∈s)=(w∈s'):=by
 have g:∀s:List (Nat×Nat),(XOp.ldx 4 1 0).run Tryz.prog [Ba En 17 (I_ n s),.int .i64 ((w.1*17+w.2:Nat):Int)]=some (.bool (decide (w∈s))):=λs=>by have hra:w.1<(I_ n s).length:=(by rw [Pu];exact h1);exact Rv Tryz.underlying4 rfl R6 hra (by rw [SB,ba _ h2];rfl) rfl .i64
 have a:=g s;rw [h,g s']at a;exact propext (decide_eq_decide.1 (AV.bool.inj (Option.some.inj a))).symm
def sQ {l:List GI} {x:AV} (hx:SlV k_ 7 l x) {cells e:Int} (hv:Hy l cells e):AJ 35 [x,.int .i64 cells] (.int .i64 e):=by
 have okx:=hx.ok BM;refine Jb (sh:=[none,none]) (ls:=[x,.int .i64 cells]) (c:=xd) (n:=300) (t:=dc) mo ov (by rcases hx with rfl|⟨_,rfl⟩<;>rfl) (by simp only [Ak,okC,okx]) rfl (λY _=>Cn _) rfl (by kernel_rfl) λY hf hg'=>?_;unfold dc;refine Aa (Fp hx) rfl (Aa (AX ..) rfl (Ax rfl (λh0=>Ap (iK (hv.a ?_)).symm) (λh0=>?_)));rintro ⟨h1,_⟩;have h0:(l.length:Int)<1:=dT h0;omega;have h0:¬(l.length:Int)<1:=dF h0;refine Aa (Fp hx) rfl (Aa (Bc ..) rfl (Ax rfl (λh4=>Ap (iK (hv.a ?_)).symm) (λh4=>?_)));rintro ⟨_,h1,_⟩;have h4:(400:Int)<(l.length:Int):=dT h4;omega;have h4:¬(400:Int)<(l.length:Int):=dF h4;have hl1:l.length-1<l.length:=by omega
 have em:IntKind.i64.wrap ((l.length:Int)-1)=((l.length-1:Nat):Int):=by rw [CS (by omega) (by omega)];omega
 refine Aa (Fp hx) rfl (Aa (r:=.int .i64 ((l.length-1:Nat):Int)) (by rw [←em];exact Bn ..) rfl (Aa (HN hx hl1) (HF _ _) (Aa (Jr ..) (Hl _ rfl _) (Aa (Ir ..) rfl (Aa (Al ..) rfl (Ax rfl (λh23=>Ap (iK (hv.a ?_)).symm) (λh23=>?_)))))));rintro ⟨_,_,_,h1⟩;have h23:(!decide (l[l.length-1].op=23))=true:=h23;rw [h1 hl1]at h23;cases h23;have h23:(!decide (l[l.length-1].op=23))=false:=h23;have hlast:∀h:l.length-1<l.length,l[l.length-1].op=23:=λ_=>by simpa using h23
 refine Dv (ι:=Nat) (λi=>[.bool (decide (∀j (h:j<l.length),j<i->l[j].Plc l.length cells)),.int .i64 (i:Int)]) (λi=>i<=l.length/\∀j (h:j<l.length),j<i->l[j].May) (λi=>l.length-i) 0 ⟨za' _,λj _ h=>by omega⟩ (by show [AV.bool true,_]=[AV.bool _,_];rw [AD (p:=∀j (h:j<l.length),j<0->l[j].Plc l.length cells) (λj _ h=>by omega)];rfl) (λ_ _=>rfl) (λi j _ _ h=>?_) (λi hi=>?_);have h:=(AV.int.inj (List.cons.inj (List.cons.inj h).2).1).2;omega;obtain ⟨hi,hmay⟩:=hi;refine Aa (Fp hx) rfl (Aa (AX ..) rfl (Ax rfl (λhlt=>?_) (λhlt=>?_)))
 .have hlt:(i:Int)<(l.length:Int):=dT hlt;have hlt:i<l.length:=(by omega);have ei:IntKind.i64.wrap ((i:Int)+1)=((i+1:Nat):Int):=(by rw [CS (by omega) (by omega)];rfl);refine Aa (IF hx hlt) (J8 l i) (BV (JT hlt) rfl (BM _) (Aq (qh l[i]) rfl rfl (Aa (ET ..) rfl (Ax rfl (λhm=>Ap (iK (hv.a ?_)).symm) (λhm=>?_)))));rintro ⟨_,_,h1,_⟩;have hm:(!decide (l[i].May))=true:=hm;rw [AD (h1 _ (HX hlt))]at hm;cases hm;have hm:(!decide (l[i].May))=false:=hm;have hm:l[i].May:=(by simpa using hm);have hmay':∀j (h:j<l.length),j<i+1->l[j].May:=λj hj hji=>(by by_cases e:j=i;subst e;exact hm;exact hmay j hj (by omega));refine Ax rfl (λhb=>?_) (λhb=>?_)
  .have hb:=AU hb;refine Aa (IF hx hlt) (J8 l i) (BV (JT hlt) rfl (BM _) (Aa (Fp hx) rfl (Aq (yK hm l.length cells) rfl rfl (Aa (AM ..) rfl (Cb rfl ⟨i+1,⟨hlt,hmay'⟩,?_,by omega⟩)))));show [AV.bool (decide (l[i].Plc l.length cells)),AV.int .i64 (IntKind.i64.wrap ((i:Int)+1))]=[AV.bool _,AV.int .i64 ((i+1:Nat):Int)];rw [ei]
   congr 2
   refine decide_eq_decide.2 ⟨λh j hj hji=>?_,λh=>h i hlt (Nat.lt_succ_self i)⟩;by_cases e:j=i;subst e;exact h;exact hb j hj (by omega)
  .have hb:=Ce hb;refine Aa (AM ..) rfl (Cb rfl ⟨i+1,⟨hlt,hmay'⟩,?_,by omega⟩);show [AV.bool false,AV.int .i64 (IntKind.i64.wrap ((i:Int)+1))]=[AV.bool _,AV.int .i64 ((i+1:Nat):Int)];rw [ei]
   congr 2
   exact (A4 λh=>hb λj hj hji=>h j hj (by omega)).symm
 have hlt:¬(i:Int)<(l.length:Int):=dF hlt;have hm:∀g∈l,g.May:=λg hg=>by obtain ⟨j,hj,rfl⟩:=List.mem_iff_getElem.1 hg;exact hmay j hj (by omega)
 have hA:Dd l:=⟨by omega,by omega,hm,hlast⟩;refine Aa (ET ..) rfl (Ax rfl (λhp=>Ap (iK (hv.b hA ?_)).symm) (λhp=>?_));have hp:(!decide (∀j (h:j<l.length),j<i->l[j].Plc l.length cells))=true:=hp;simp only [Bool.not_eq_true',AY]at hp;exact λh=>hp λj hj _=>h _ (zg' hj);have hp:(!decide (∀j (h:j<l.length),j<i->l[j].Plc l.length cells))=false:=hp;simp only [Bool.not_eq_false',AH]at hp;have hF:DP l cells:=hA.form λg hg=>by obtain ⟨j,hj,rfl⟩:=List.mem_iff_getElem.1 hg;exact hp j hj (by omega)
 have hg:=hF.ok;have hmk:=tC (P:=Tryz.prog) (sz:=17) (bytes:=17) (enc:=En) (x:=λ_=>false) rfl (n:=l.length) (by omega) (by omega) (k:=.i64);have hr0:List.replicate l.length (λ_=>false)=I_ l.length []:=by apply zc';simp [I_];intro j h1 h2;simp only [I_,List.getElem_replicate,List.getElem_map];rfl
 rw [hr0]at hmk;have hN:(m_ l).N=l.length:=rfl;refine Aa (Fp hx) rfl (Aa hmk (DD Wp _) ?_);refine Dv (ι:=List (Nat×Nat)×List (Nat×Nat)) (λp=>[Ba En 17 (I_ l.length p.1),Ba p_ 2 p.2]) (λp=>BA (m_ l) p.1 p.2/\∀v∈p.1,(m_ l).full v=false) (λp=>2*AO (m_ l) p.1+p.2.length) ([],[(0,0)]) ⟨BA.begin hg,λv h=>(List.not_mem_nil h).elim⟩ rfl
  (λp _=>by simp only [Ak,DD Hu,DD Wp]) (λp q _ _ h=>?_) (λp hp=>?_)
 have e1:AO (m_ l) p.1=AO (m_ l) q.1:=TK _ λk hk=>(by rw [hN]at hk;unfold MI;refine decide_eq_decide.2 ?_;rw [xf (w:=(k/17,k%17)) (List.cons.inj h).1 (by show k/17<l.length;omega) (by show k%17<17;omega)]);have e2:p.2.length=q.2.length:=(AV.vsl.inj (List.cons.inj (List.cons.inj h).2).1).1;rw [e1,e2];obtain ⟨s,td⟩:=p;have hS:BA (m_ l) s td:=hp.1;have hnf:∀v∈s,(m_ l).full v=false:=hp.2;have hsz:=hS.lt;rw [hN]at hsz;refine Aa (qM td) rfl (Aa (Bc ..) rfl (Ax rfl (λhq=>?_) (λhq=>?_)))
 rotate_left
 .have hq:¬(0:Int)<(td.length:Int):=dF hq;have hn:td=[]:=List.length_eq_zero_iff.1 (by omega);subst hn;have hfull:¬(m_ l).Full:=λh=>(by obtain ⟨v,h1,h2⟩:=List.any_eq_true.1 (hS.full.2 h);rw [hnf v h1]at h2;cases h2);refine Dv (ι:=Nat) (λi=>[.int .i64 (i:Int)]) (λi=>i<=l.length/\∀j,j<i->¬1<cH s j 17) (λi=>l.length-i) 0 ⟨za' _,λj h=>by omega⟩ rfl (λi _=>rfl) (λi j _ _ h=>by have h:=(AV.int.inj (List.cons.inj h).1).2;omega) (λi hi=>?_);obtain ⟨hi,hone⟩:=hi;refine Aa (Fp hx) rfl (Aa (AX ..) rfl (Ax rfl (λhlt=>?_) (λhlt=>Ap (iK (hv.f hF hfull ?_)).symm)))
  rotate_left
  have hlt:¬(i:Int)<(l.length:Int):=dF hlt;rintro ⟨a,h,h',m1,m2,hne⟩;have k1:=hS.all m1;have k2:=hS.all m2;have r1:=hS.rs _ k1;have r2:=hS.rs _ k2;simp only [hN]at r1 r2;rcases Nat.lt_or_gt_of_ne hne with hh|hh;exact hone a (by omega) (lR hh (by omega) k1 k2);exact hone a (by omega) (lR hh (by omega) k2 k1);have hlt:(i:Int)<(l.length:Int):=dT hlt;have hlt:i<l.length:=(by omega);have hri:i<(I_ l.length s).length:=(by rw [Pu];exact hlt);refine Dv (ι:=Nat) (λh=>[.int .i64 (h:Int),.int .i64 (cH s i h:Int),.int .i64 (i:Int)]) (λh=>h<=17) (λh=>17-h) 0 (za' _) rfl (λh _=>rfl) (λi j _ _ h=>by have h:=(AV.int.inj (List.cons.inj h).1).2;omega) (λh hh=>?_);have hc:=jw s i h;refine Aa (Bq ..) rfl (Ax rfl (λhle=>?_) (λhle=>?_));have hle:(h:Int)<=16:=dT hle;have hle:h<17:=(by omega);have hv':(En (I_ l.length s)[i])[h]? =some (.bool (decide ((i,h)∈s))):=(by rw [SB,ba _ hle];rfl);refine Aa (P5 (i:=i) hri .i64) rfl (Aa (Po (m:=h) hle) rfl (Aa (Rv Tryz.underlying4 rfl R6 hri hv' (by omega) .i64) rfl (Ax rfl (λhb=>?_) (λhb=>?_))));have hb:(i,h)∈s:=dT hb;refine Aa (o_ (by omega) (by omega)) rfl (Aa (o_ (by omega) (by omega)) rfl (Cb rfl ⟨h+1,hle,?_,by omega⟩));simp only [cH,Ad hb];rfl;have hb:¬(i,h)∈s:=dF hb;refine Aa (o_ (by omega) (by omega)) rfl (Cb rfl ⟨h+1,hle,?_,by omega⟩);simp only [cH,Ab hb];rfl;have hle:¬(h:Int)<=16:=dF hle;obtain rfl:h=17:=(by omega);refine Aa (Bc ..) rfl (Ax rfl (λh2=>Ap (iK (hv.d hF hfull ?_)).symm) (λh2=>?_));have h2:(1:Int)<(cH s i 17:Int):=dT h2;obtain ⟨a,b,hne,m1,m2⟩:=iU (s:=s) (i:=i) (n:=17) (by omega);exact ⟨i,a,b,(hS.rs _ m1).1,(hS.rs _ m2).1,hne⟩;have h2:¬(1:Int)<(cH s i 17:Int):=dF h2;refine Aa (o_ (by omega) (by omega)) rfl (Cb rfl ⟨i+1,⟨hlt,λj hj=>?_⟩,rfl,by omega⟩);by_cases e:j=i;subst e;omega;exact hone j (by omega)
 have hq:(0:Int)<(td.length:Int):=dT hq;cases td with
 |nil=>simp at hq
 |cons w t=>
  have hmem:∀v,v∈w::t↔v=w\/v∈t:=λv=>CE;have hwt:=hS.rt w (zd' ..);have hw1:w.1<l.length:=hwt.2.1;have hw2:=hwt.2.2;have hgm:=hF.may _ (zg' hw1);have hmb:=MG hgm;have htk:=mX hw1;have hlv:=iT hw1;have hgo:=lE hw1;have htk8:d_ l[w.1]<=8:=(by unfold d_;(repeat' split)<;>omega);have hgv:0<=u_ l[w.1].op/\u_ l[w.1].op<=1:=(by unfold u_;split<;>omega);have hx0:0<(w::t).length:=Nat.zero_lt_succ _;have hra:w.1<(I_ l.length s).length:=(by rw [Pu];exact hw1);have h17:w.2<17:=(by omega);simp only [List.length_cons]at hsz;refine Aa (P5 (i:=0) hx0 .i64) rfl (Aa (Po (m:=0) (by decide)) rfl (Aa (Rv (v:=.int .i64 (w.1:Int)) Tryz.underlying3 rfl Lj hx0 (i:=0) (off:=0) rfl rfl .i64) rfl ?_));refine Aa (P5 (i:=0) hx0 .i64) rfl (Aa (Po (m:=1) (by decide)) rfl (Aa (Rv (v:=.int .i64 (w.2:Int)) Tryz.underlying3 rfl Lj hx0 (i:=0) (off:=1) rfl rfl .i64) rfl ?_));refine Aa (vR Lj w t) (DD Hu _) ?_;have hv':(En (I_ l.length s)[w.1])[w.2]? =some (.bool (decide (w∈s))):=(by rw [SB,ba _ h17];rfl);refine Aa (P5 (i:=w.1) hra .i64) rfl (Aa (Po (m:=w.2) h17) rfl (Aa (Rv Tryz.underlying4 rfl R6 hra hv' (by omega) .i64) rfl ?_));refine Ax rfl (λhin=>?_) (λhin=>?_);have hin:w∈s:=dT hin;exact Cb rfl ⟨(s,t),⟨hS.seen hmem rfl hin,hnf⟩,rfl,by show 2*AO (m_ l) s+t.length<2*AO (m_ l) s+(t.length+1);omega⟩;have hns:w∉s:=dF hin;have hy:En (JH (s++[w]) w.1)=(En (I_ l.length s)[w.1]).set w.2 (.bool true):=(by rw [SB,vD,uq]);have hst:=yT (P:=Tryz.prog) (t:=4) (ti:=(Tryz.prog.info? 4).get!) R6 hra (b:=true) (y:=JH (s++[w]) w.1) (by kernel_rfl) (by kernel_rfl) h17 hy rfl .i64;rw [wZ]at hst;refine Aa (P5 (i:=w.1) hra .i64) rfl (Aa (Po (m:=w.2) h17) rfl ?_);rw [show w.1*17+0+w.2*1=w.1*17+w.2 by omega];refine Aa hst (DD Wp _) ?_;refine Aa (IF hx hw1) (J8 l w.1) (BV (JT hw1) rfl (BM _) (Aq (kB (i:=l[w.1]) (λ_=>by omega)) rfl rfl ?_));refine Aa (AX ..) rfl (Ax rfl (λhlow=>Ap (iK (hv.c hF ⟨w,hwt.1,?_⟩)).symm) (λhlow=>?_));have hlow:(w.2:Int)<(d_ l[w.1]:Int):=dT hlow;unfold WG.full;rw [htk,AD (by omega)];rfl;have hlow:¬(w.2:Int)<(d_ l[w.1]:Int):=dF hlow;have s1:(XOp.bin .sub 3 false false).run Tryz.prog [.int .i64 (w.2:Int),.int .i64 (d_ l[w.1]:Int)]=some (.int .i64 ((w.2:Int)-(d_ l[w.1]:Int))):=(by rw [←CS (x:=(w.2:Int)-(d_ l[w.1]:Int)) (by omega) (by omega)];exact Bn ..);have s2:(XOp.bin .add 3 false false).run Tryz.prog [.int .i64 ((w.2:Int)-(d_ l[w.1]:Int)),.int .i64 (u_ l[w.1].op)]=some (.int .i64 ((w.2:Int)-(d_ l[w.1]:Int)+u_ l[w.1].op)):=(by rw [←CS (x:=(w.2:Int)-(d_ l[w.1]:Int)+u_ l[w.1].op) (by omega) (by omega)];exact AM ..);refine Aa s1 rfl (Aa s2 rfl (Aa (Bc ..) rfl (Ax rfl (λhhi=>Ap (iK (hv.c hF ⟨w,hwt.1,?_⟩)).symm) (λhhi=>?_))));have hhi:(16:Int)<(w.2:Int)-(d_ l[w.1]:Int)+u_ l[w.1].op:=dT hhi;unfold WG.full;rw [htk,AD (p:=16<w.2-d_ l[w.1]+(m_ l).lv w.1) (by omega),Bool.or_true];have hhi:¬(16:Int)<(w.2:Int)-(d_ l[w.1]:Int)+u_ l[w.1].op:=dF hhi;have hfull:(m_ l).full w=false:=(by unfold WG.full;rw [htk,A4 (by omega),A4 (by omega)];rfl);have hhiN:((w.2:Int)-(d_ l[w.1]:Int)+u_ l[w.1].op)=(((m_ l).hi w:Nat):Int):=(by unfold WG.hi;rw [htk];omega);rw [hhiN]at s2;have hnx:(m_ l).nxt w=(t_ l[w.1] w.1).map λb=>(b,(m_ l).hi w):=(by unfold WG.nxt;rw [Ab (by rw [hfull];decide),hgo]);have hf2:=BA.fresh hg hS (w:=w) (t':=t) (t2:=t++(m_ l).nxt w) hmem rfl hns (λv=>DU) Az;have sm:(I_ l.length s).length=(I_ l.length (s++[w])).length:=(by rw [Pu,Pu]);have hnf':∀v∈s++[w],(m_ l).full v=false:=λv hv=>(by rcases List.mem_append.1 hv with h|h;exact hnf v h;rw [List.mem_singleton.1 h];exact hfull);have fin:∀q,q=t++(m_ l).nxt w->∃p:List (Nat×Nat)×List (Nat×Nat),(BA (m_ l) p.1 p.2/\∀v∈p.1,(m_ l).full v=false)/\[Ba En 17 (I_ l.length (s++[w])),Ba p_ 2 q]=[Ba En 17 (I_ l.length p.1),Ba p_ 2 p.2]/\2*AO (m_ l) p.1+p.2.length<2*AO (m_ l) s+(t.length+1):=λq hq=>⟨(s++[w],t++(m_ l).nxt w),⟨hf2.1,hnf'⟩,by rw [hq],hf2.2⟩;have had:(((l[w.1].ad).toNat:Nat):Int)=l[w.1].ad:=ze' (by omega);have e1:IntKind.i64.wrap ((w.1:Int)+1)=((w.1+1:Nat):Int):=(by rw [CS (by omega) (by omega)];rfl);refine Aa s1 rfl (Aa s2 rfl ?_);have apJ:∀q:List (Nat×Nat),q.length<=100000->(XOp.app 2 16).run Tryz.prog [Ba p_ 2 q,.agg [.int .i64 l[w.1].ad,.int .i64 (((m_ l).hi w:Nat):Int)]]=some (Ba p_ 2 (q++[(l[w.1].ad.toNat,(m_ l).hi w)])):=λq hq=>(by have:=V9 q l[w.1].ad.toNat ((m_ l).hi w) (by omega);rw [had]at this;exact this);have apN:∀q:List (Nat×Nat),q.length<=100000->(XOp.app 2 16).run Tryz.prog [Ba p_ 2 q,.agg [.int .i64 (IntKind.i64.wrap ((w.1:Int)+1)),.int .i64 (((m_ l).hi w:Nat):Int)]]=some (Ba p_ 2 (q++[(w.1+1,(m_ l).hi w)])):=λq hq=>(by rw [e1];exact V9 q (w.1+1) ((m_ l).hi w) (by omega));have hsl:t.length<=50000:=(by omega);refine Aa (HN hx hw1) (HF _ _) (Aa (Jr ..) (Hl _ rfl _) (Aa (Ir ..) rfl (Aa (Am ..) rfl (Ax rfl (λh20=>?_) (λh20=>?_)))));have h20:l[w.1].op=20:=dT h20;have eg:t_ l[w.1] w.1=[l[w.1].ad.toNat]:=(by unfold t_;rw [Ab (by omega),Ad h20]);refine Aa (HN hx hw1) (HF _ _) (Aa (mp ..) (Hl _ rfl _) (Aa (Ir ..) rfl (Aa (apJ t (by omega)) (DD Hu _) ?_)));refine Aa (HN hx hw1) (HF _ _) (Aa (Jr ..) (Hl _ rfl _) (Aa (Ir ..) rfl (Aa (Al ..) rfl (Ax rfl (λhc=>?_) (λ_=>Ea (UJ rfl rfl sm) (Cb rfl (fin _ (by rw [hnx,eg];rfl))))))));have hc:(!decide (l[w.1].op=20))=true:=hc;rw [AD h20]at hc;cases hc;have h20:¬l[w.1].op=20:=dF h20;refine Aa (HN hx hw1) (HF _ _) (Aa (Jr ..) (Hl _ rfl _) (Aa (Ir ..) rfl (Aa (Am ..) rfl (Ax rfl (λh21=>?_) (λh21=>?_)))))
  .have h21:l[w.1].op=21:=dT h21;have eg:t_ l[w.1] w.1=[l[w.1].ad.toNat,w.1+1]:=(by unfold t_;rw [Ab (by omega),Ab h20,Ad h21]);refine Aa (HN hx hw1) (HF _ _) (Aa (mp ..) (Hl _ rfl _) (Aa (Ir ..) rfl (Aa (apJ t (by omega)) (DD Hu _) ?_)));refine Aa (HN hx hw1) (HF _ _) (Aa (Jr ..) (Hl _ rfl _) (Aa (Ir ..) rfl (Aa (Al ..) rfl (Ax rfl (λ_=>?_) (λhc=>?_)))))
   rotate_left
   have hc:(!decide (l[w.1].op=20))=false:=hc;rw [A4 h20]at hc;cases hc;refine Aa (HN hx hw1) (HF _ _) (Aa (Jr ..) (Hl _ rfl _) (Aa (Ir ..) rfl (Aa (Al ..) rfl (Ax rfl (λ_=>?_) (λhc=>?_)))))
   rotate_left
   have hc:(!decide (l[w.1].op=23))=false:=hc;rw [A4 (by omega)]at hc;cases hc;exact Aa (AM ..) rfl (Aa (apN _ (by rw [List.length_append,List.length_singleton];omega)) (DD Hu _) (Ea (UJ rfl rfl sm) (Cb rfl (fin _ (by rw [hnx,eg,List.append_assoc];rfl)))))
  have h21:¬l[w.1].op=21:=dF h21;refine Aa (HN hx hw1) (HF _ _) (Aa (Jr ..) (Hl _ rfl _) (Aa (Ir ..) rfl (Aa (Al ..) rfl (Ax rfl (λ_=>?_) (λhc=>?_)))))
  rotate_left
  have hc:(!decide (l[w.1].op=20))=false:=hc;rw [A4 h20]at hc;cases hc;refine Aa (HN hx hw1) (HF _ _) (Aa (Jr ..) (Hl _ rfl _) (Aa (Ir ..) rfl (Aa (Al ..) rfl (Ax rfl (λhc=>?_) (λhc=>?_)))));have hc:(!decide (l[w.1].op=23))=true:=hc;have h23:¬l[w.1].op=23:=(by simpa using hc);have eg:t_ l[w.1] w.1=[w.1+1]:=(by unfold t_;rw [Ab h23,Ab h20,Ab h21]);exact Aa (AM ..) rfl (Aa (apN t (by omega)) (DD Hu _) (Ea (UJ rfl rfl sm) (Cb rfl (fin _ (by rw [hnx,eg];rfl)))));have hc:(!decide (l[w.1].op=23))=false:=hc;have h23:l[w.1].op=23:=(by simpa using hc);have eg:t_ l[w.1] w.1=[]:=(by unfold t_;rw [Ad h23]);exact Ea (UJ rfl rfl sm) (Cb rfl (fin _ (by rw [hnx,eg,List.map_nil,List.append_nil])))
def Cd (l:List GI) (p:Nat) (c:List GI):Prop:=∃a b,l=a++(c++b)/\a.length=p
section
variable {l:List GI}
def Cd.at {p:Nat} {i:GI} {r:List GI} (h:Cd l p (i::r)):l[p]? =some i:=by obtain ⟨a,b,rfl,rfl⟩:=h;simp
def Rn (p:Nat) (st mem:List FV) (us now:Int):MS:=⟨(p:Int),st,mem,us,now,false,0⟩
end
def sD:VC:=⟨⟨[],[]⟩,[],[],0,true,[]⟩
def bO:VT:=It (.bin .eql 30 false true) [64,.nsl] 65 (.done (.nsl))<|Li Qs [.vsl 0 7 [],64] 66<|.done (66)
def um:VC:=⟨⟨[],[]⟩,[],[],0,true,[]⟩
def jq:VT:=It Zj [64,.nsl] 65 (.done (.nsl))<|Li Qe [.vsl 0 3 [],64] 66<|.done (66)
def sK:VC:=⟨⟨[],[]⟩,[(67,[none]),(68,[none]),(42,[none])],[],0,true,[]⟩
def jE:VT:=.call 67 [64] 77 [none]<|.call 68 [65] 78 [none]<|.call 42 [67] 79 [none]<|.call 42 [69] 80 [none]<|.call 42 [70] 81 [none]<|.done (.agg ([77,78,66,79,68,80,81]++Ae 71 6))
def S5:VC:=⟨⟨[],[]⟩,[(28,[none]),(29,[none,none]),(30,[none]),(32,[none]),(31,[(some 13)])],[],0,true,[]⟩
def GM:VT:=.call 28 [64] 68 [none]<|It Q7 [68,J 0] 69 (.done (.tup [.agg [.nsl,.nsl,J 0,.nsl,J 0,.nsl,.nsl,J 0,J 0,.bool false,J 0,J 0,J 0],J 1]))<|It Qa [67,J 1] 70 (.done (.tup [.agg [.nsl,.nsl,J 0,.nsl,J 0,.nsl,.nsl,J 0,J 0,.bool false,J 0,J 0,J 0],J 1]))<|It Qb [67,J 100000] 71 (.done (.tup [.agg [.nsl,.nsl,J 0,.nsl,J 0,.nsl,.nsl,J 0,J 0,.bool false,J 0,J 0,J 0],J 1]))<|.call 29 [64] 72 [none,none]<|.call 30 [66,73] 74 [none]<|It Q7 [74,J 0] 75 (.done (.tup [.agg [.nsl,.nsl,J 0,.nsl,J 0,.nsl,.nsl,J 0,J 0,.bool false,J 0,J 0,J 0],74]))<|.call 32 [64] 76 [none]<|.call 31 [.agg [64,66,67,76,J 0,.nsl,.nsl,J 0,J 0,.bool true,J 0,J 0,J 0]] 77 [(some 13)]<|.done (.tup [.agg (Ae 77 13),J 0])
def TJ:VC:=⟨⟨[],[]⟩,[(33,[none]),(34,[none]),(35,[none])],[],0,true,[]⟩
def GE:VT:=.call 33 [64] 68 [none]<|It Q7 [68,J 0] 69 (.done (.tup [.agg [.nsl,.nsl,J 0,.nsl,J 0,.nsl,.nsl,J 0,J 0,.bool false,J 0,J 0,J 0],J 1]))<|It Qa [67,J 1] 70 (.done (.tup [.agg [.nsl,.nsl,J 0,.nsl,J 0,.nsl,.nsl,J 0,J 0,.bool false,J 0,J 0,J 0],J 1]))<|It Qb [67,J 100000] 71 (.done (.tup [.agg [.nsl,.nsl,J 0,.nsl,J 0,.nsl,.nsl,J 0,J 0,.bool false,J 0,J 0,J 0],J 1]))<|.call 34 [64] 72 [none]<|Li Qz [72] 73<|.call 35 [66,73] 74 [none]<|It Q7 [74,J 0] 75 (.done (.tup [.agg [.nsl,.nsl,J 0,.nsl,J 0,.nsl,.nsl,J 0,J 0,.bool false,J 0,J 0,J 0],74]))<|Li (.app 10 88) [.vsl 0 10 [],64] 76<|Li Qs [.vsl 0 7 [],66] 77<|.done (.tup [.agg [76,77,67,72,J 0,.nsl,.nsl,J 0,J 0,.bool true,J 0,J 0,J 0],J 0])
def vF:VC:=⟨⟨[],[]⟩,[(80,[none])],[(0,[⟨[(5,.slx 0 0 0),(1,65),(0,64)],[],0,1,[],[],[]⟩])],0,true,[]⟩
def cw:VT:=Li Qi [64] 66<|Li Qi [65] 67<|It Qd [66,67] 68 Ψ<|.loop 69 0 [J 0] (.cons 1 (Li Qi [64] 70<|It Q5 [69,70] 71 (Li Qk [64,69] 72<|.lt Qy [72] 73 (some 7)<|Li Qk [65,69] 80<|.lt Qy [80] 81 (some 7)<|.call 80 [.agg (Ae 73 7),.agg (Ae 81 7)] 88 [none]<|It Q6 [88] 89 Ψ<|Li Q3 [69,J 1] 90<|.again 0 0 [90])<|Ω) .nil)
def qI:VC:=⟨⟨[],[]⟩,[(48,[none])],[],0,true,[]⟩
def lu:VT:=It Q9 [64,71] 78 (It Q9 [65,72] 79 (It Q9 [66,73] 80 (It Q9 [67,74] 81 (.call 48 [.agg [68,69,70],.agg [75,76,77]] 82 [none]<|.done (82))<|Ψ)<|Ψ)<|Ψ)<|Ψ
def UW:VC:=⟨⟨[],[]⟩,[(36,[none]),(37,[none]),(19,[none]),(38,[none])],[],0,true,[]⟩
def Gc:VT:=.call 36 [64,77] 90 [none]<|.ite 90 (.call 37 [65,78] 91 [none]<|.ite 91 (It Q9 [66,79] 92 (.call 19 [67,80] 93 [none]<|.ite 93 (.call 38 [.agg (Ae 68 7),.agg (Ae 81 7)] 94 [none]<|.ite 94 (It Zv [75,88] 95 (Li Q9 [76,89] 96<|.done (96))<|Ψ)<|Ψ)<|Ψ)<|Ψ)<|Ψ)<|Ψ
def m0:List FV:=[⟨2,0,some 0⟩,⟨1,0,some 0⟩,⟨2,0,some 0⟩,⟨1,0,some 0⟩,⟨2,5,some 0⟩,⟨3,0,some 0⟩,⟨5,0,some 0⟩,⟨4,0,some 0⟩,⟨2,0,some 0⟩,⟨2,0,some 0⟩,⟨2,0,some 0⟩,⟨2,0,some 0⟩,⟨1,0,some 0⟩,⟨4,0,some 0⟩,⟨1,0,some 0⟩,⟨4,0,some 0⟩,⟨1,0,some 0⟩,⟨2,0,some 0⟩,⟨1,0,some 0⟩,⟨1,0,some 0⟩,⟨1,0,some 0⟩]
def Fe_:Aw m0:=⟨by kernel_rfl,by simp only [TV,DY];decide⟩
def ql:AJ 28 [VARS] (.int .i64 0):=B7 mo ov (n:=3000) (by kernel_rfl)
def uo:AJ 29 [VARS] (.tup [.vsl 12 1 [.int .i64 0,.int .i64 1,.int .i64 2,.int .i64 3,.int .i64 4,.int .i64 5,.int .i64 6,.int .i64 7,.int .i64 8,.int .i64 12,.int .i64 16,.int .i64 19],.int .i64 21]):=B7 mo ov (n:=3000) (by kernel_rfl)
def zp:AJ 32 [VARS] (c_ m0):=B7 mo ov (n:=3000) (by kernel_rfl)
def wM:AJ 33 [VARS] (.int .i64 0):=B7 mo ov (n:=3000) (by kernel_rfl)
def sH:AJ 34 [VARS] (c_ m0):=B7 mo ov (n:=3000) (by kernel_rfl)
def k36:AJ 36 [VARS,VARS] (.bool true):=B7 mo ov (n:=3000) (by kernel_rfl)
def rY:AJ 67 [VARS] VARS:=B7 mo ov (n:=3000) (by kernel_rfl)
def Vu {cs:List AV} (h:Ak cs=true):BS (.agg cs)=true:=Ws (a:=.agg cs) h
def lM {cs:List AV} {b:AV} (h:Ak cs=true) (hb:okC b=true):BS (.tup [.agg cs,b])=true:=by have h1:=Vu h;have h2:=L6 hb;simp only [BS,Gg,h1,h2];simp_all [BS]
def UN {α:Type} {enc:α->List AV} {w b:Nat} (hw:∀a,(enc a).length=w) (hwp:0<w) (hb:0<b) {l:List α} {x:AV} (h:SlV enc w l x) (hl:l.length*b<=1073741824):(XOp.app w b).run Tryz.prog [.vsl 0 w [],x]=some (Ba enc w l):=by
 have ha:DF w x=some (l.length,Ay enc l):=by rcases h with rfl|⟨rfl,rfl⟩;have hl:(Ay enc l).length=l.length*w:=Ei hw l;show (match Cx ⟨AE,0,0⟩ (.vsl l.length w (Ay enc l)) l.length w with|some c=>some (l.length,c)|none=>none)=_;have:Cx ⟨AE,0,0⟩ (.vsl l.length w (Ay enc l)) l.length w=some (Ay enc l):=(by show CJ (Nat.mul l.length w) _=_;have h:=JC (Ay enc l) [];rw [List.append_nil,hl]at h;exact h);rw [this];rfl
 show (match DF w x with|some (n,l')=>El w b (.vsl 0 w []) n l'|none=>none)=_;rw [ha];show El w b (.vsl 0 w []) l.length (Ay enc l)=_;have h1:(Ay enc l).length=l.length*w:=Ei hw l;have hl1:l.length<=1073741824:=Nat.le_trans (Nat.le_mul_of_pos_right _ hb) hl;unfold El;simp only [h1,decide_true,AK,Nat.zero_mul,and_self];cases l with
 |nil=>rfl
 |cons c r=>have c1:(Nat.ble (Nat.mul (Nat.add 0 (r.length+1)) b) 1073741824&&Nat.ble (Nat.add 0 (r.length+1)) 1073741824&&Nat.blt 0 b)=true:=(by have e:Nat.mul (Nat.add 0 (r.length+1)) b=(r.length+1)*b:=(by show (0+(r.length+1))*b=_;rw [Nat.zero_add]);have e2:Nat.add 0 (r.length+1)=r.length+1:=Cu _;have e3:Nat.blt 0 b=true:=(by rw [Nat.blt_eq];exact hb);rw [e,e2,e3,Nat.ble_eq_true_of_le (show (r.length+1)*b<=1073741824 from hl),Nat.ble_eq_true_of_le (show r.length+1<=1073741824 from hl1)];rfl);simp only [List.length_cons,c1];show some (AV.vsl (Nat.add 0 (r.length+1)) w ([]++Ay enc (c::r)))=_;rw [show Nat.add 0 (r.length+1)=r.length+1 from Cu _,List.nil_append];rfl
def wk {l:List GI} {x:AV} (h:SlV k_ 7 l x) (hl:l.length<=1000000):AJ 68 [x] x:=by have hx:=h.ok BM;refine Jb (sh:=[none]) (ls:=[x]) (c:=sD) (n:=300) (t:=bO) mo ov (by rcases h with rfl|⟨_,rfl⟩<;>rfl) (by simp only [Ak,hx]) (L6 hx) (λY _=>Cn _) rfl (by kernel_rfl) λY hf hg=>?_;unfold bO;rcases h with rfl|⟨_,rfl⟩;refine Aa (r:=.bool false) (by kernel_rfl) rfl (Ax (t:=false) rfl (λh=>by cases h) (λ_=>?_));exact Aa (UN Jj (by decide) (by decide) (SlV.v (enc:=k_) (w:=7) l) (by omega)) (DD BM _) (Ap rfl);exact Aa (r:=.bool true) (by kernel_rfl) rfl (Ax (t:=true) rfl (λ_=>Ap rfl) (λh=>by cases h))
def TM {l:List FV} {x:AV} (h:St l x) (hl:l.length<=1000000):AJ 42 [x] x:=by have hx:=h.okC;refine Jb (sh:=[none]) (ls:=[x]) (c:=um) (n:=300) (t:=jq) mo ov (by rcases h with rfl|⟨_,rfl⟩<;>rfl) (by simp only [Ak,hx]) (L6 hx) (λY _=>Cn _) rfl (by kernel_rfl) λY hf hg=>?_;unfold jq;rcases h with rfl|⟨_,rfl⟩;refine Aa (r:=.bool false) (by kernel_rfl) rfl (Ax (t:=false) rfl (λh=>by cases h) (λ_=>?_));exact Aa (UN Eh (by decide) (by decide) (SlV.v (enc:=f_) (w:=3) l) (by omega)) (DD BI _) (Ap rfl);exact Aa (r:=.bool true) (by kernel_rfl) rfl (Ax (t:=true) rfl (λ_=>Ap rfl) (λh=>by cases h))
structure SS where
 most:Int
 im:List FV
 m:MS
 err:Int
 n:Int
def K_ (x:AV) (s:SS) (st:AV):List AV:=VARS::x::.int .i64 s.most::c_ s.im::(KR s.m st++[.int .i64 s.err,.int .i64 s.n])
def EV {x st:AV} (s:SS) (hx:okC x=true) (hs:okC st=true):Ak (K_ x s st)=true:=by
 have hv:okC VARS=true:=by kernel_rfl
 simp only [K_,KR,Bg,B2,Ak,okC,hv,hx,hs,G_]
structure EW (s:SS):Prop where
 im:s.im.length<=1000
 st:s.m.st.length<=1000
 mem:s.m.mem.length<=1000
def Yf {l:List GI} {x:AV} (hx:SlV k_ 7 l x) (hl:l.length<=1000000) {s:SS} {st:AV} (hs:St s.m.st st) (h:EW s):AJ 31 [.agg (K_ x s st)] (.agg (K_ x s st)):=by have okx:=hx.ok BM;have oks:=hs.okC;refine Bx [some 13] (K_ x s st) sK jE rfl (EV s okx oks) (by have:=EV s okx oks;exact Vu this) rfl rfl (by kernel_rfl) λY hf hg=>?_;unfold jE;refine Aq rY rfl (by kernel_rfl) (Aq (wk hx hl) rfl (by show Ak [x]=true;simp only [Ak,okx]) (Aq (TM (SlV.of (enc:=f_) (w:=3) s.im) (by have:=h.im;omega)) rfl (by show Ak [c_ s.im]=true;simp only [Ak,G_]) (Aq (TM hs (by have:=h.st;omega)) rfl (by show Ak [st]=true;simp only [Ak,oks]) (Aq (TM (SlV.of (enc:=f_) (w:=3) s.m.mem) (by have:=h.mem;omega)) rfl (by show Ak [c_ s.m.mem]=true;simp only [Ak,G_]) (Ap rfl)))))
def rV:List AV:=[.nsl,.nsl,.int .i64 0,.nsl,.int .i64 0,.nsl,.nsl,.int .i64 0,.int .i64 0,.bool false,.int .i64 0,.int .i64 0,.int .i64 0]
def s0 (n:Int):SS:=⟨n,m0,⟨0,[],[],0,0,true,0⟩,0,0⟩
def ld (n:Int):EW (s0 n):=⟨by show m0.length<=1000;decide,za' _,za' _⟩
def GY (e n:Int):Int:=if n<1\/100000<n then 1 else e
def KF (x:AV) (n e:Int):List AV:=if e=0 then K_ x (s0 n) .nsl else rV
def N5:St [] .nsl:=.inr ⟨rfl,rfl⟩
def fH {x:AV} (hx:okC x=true) (n e:Int):Ak (KF x n e)=true:=by unfold KF;split;exact EV _ hx rfl;rfl
def xl {l:List GI} {x:AV} (hx:SlV k_ 7 l x) (hl:l.length<=1000000) {b:AV} (hb:okC b=true) (n:Int) {e:Int} (hv:Hy l 21 e):AJ 10 [.agg [VARS,b],x,.int .i64 n] (.tup [.agg (KF x n (GY e n)),.int .i64 (GY e n)]):=by
 have okx:=hx.ok BM;have okv:okC VARS=true:=by kernel_rfl
 refine Jb (sh:=[some 2,none,none]) (ls:=[VARS,b,x,.int .i64 n]) (c:=S5) (n:=300) (t:=GM) mo ov (by rcases hx with rfl|⟨_,rfl⟩<;>rfl) (by simp only [Ak,okC,okv,okx,hb]) (lM (fH okx n _) rfl) (λY _=>Cn _) rfl (by kernel_rfl) λY hf hg=>?_;unfold GM;refine Aq ql rfl rfl (Aa (Al ..) rfl (Ax (t:=false) rfl (λh=>by cases h) (λ_=>?_)));refine Aa (AX ..) rfl (Ax rfl (λh1=>Ap ?_) (λh1=>?_));have h1:n<1:=dT h1;rw [show GY e n=1 from Ad (.inl h1)];rfl;have h1:¬n<1:=dF h1;refine Aa (Bc ..) rfl (Ax rfl (λh2=>Ap ?_) (λh2=>?_));have h2:100000<n:=dT h2;rw [show GY e n=1 from Ad (.inr h2)];rfl;have h2:¬100000<n:=dF h2;have he:GY e n=e:=Ab (by omega);rw [he];refine Aq uo rfl rfl (Aq (te hx hl hv) rfl rfl (Aa (Al ..) rfl (Ax rfl (λh0=>Ap ?_) (λh0=>?_))));have h0:(!decide (e=0))=true:=h0;have h0:¬e=0:=(by simpa using h0);unfold KF;rw [Ab h0];rfl;have h0:(!decide (e=0))=false:=h0;have h0:e=0:=by simpa using h0
 subst h0;refine Aq zp rfl (by show Ak [c_ m0]=true;simp only [Ak,G_]) (Aq (Yf hx hl (s:=s0 n) N5 (ld n)) rfl (EV _ okx rfl) (Ap rfl))
def zY {l:List GI} {x:AV} (hx:SlV k_ 7 l x) (hl:l.length<=1000000) {b:AV} (hb:okC b=true) (n:Int) {e:Int} (hv:Hy l 21 e):AJ 11 [.agg [VARS,b],x,.int .i64 n] (.tup [.agg (KF (Ba k_ 7 l) n (GY e n)),.int .i64 (GY e n)]):=by
 have okx:=hx.ok BM;have okv:okC VARS=true:=by kernel_rfl
 refine Jb (sh:=[some 2,none,none]) (ls:=[VARS,b,x,.int .i64 n]) (c:=TJ) (n:=300) (t:=GE) mo ov (by rcases hx with rfl|⟨_,rfl⟩<;>rfl) (by simp only [Ak,okC,okv,okx,hb]) (lM (fH (DD BM l) n _) rfl) (λY _=>Cn _) rfl (by kernel_rfl) λY hf hg=>?_;unfold GE;refine Aq wM rfl rfl (Aa (Al ..) rfl (Ax (t:=false) rfl (λh=>by cases h) (λ_=>?_)));refine Aa (AX ..) rfl (Ax rfl (λh1=>Ap ?_) (λh1=>?_));have h1:n<1:=dT h1;rw [show GY e n=1 from Ad (.inl h1)];rfl;have h1:¬n<1:=dF h1;refine Aa (Bc ..) rfl (Ax rfl (λh2=>Ap ?_) (λh2=>?_));have h2:100000<n:=dT h2;rw [show GY e n=1 from Ad (.inr h2)];rfl;have h2:¬100000<n:=dF h2;have he:GY e n=e:=Ab (by omega);rw [he];refine Aq sH rfl (by show Ak [c_ m0]=true;simp only [Ak,G_]) (Aa ((SlV.of (enc:=f_) (w:=3) m0).len Tryz.underlying34) rfl (Aq (sQ hx hv) rfl rfl (Aa (Al ..) rfl (Ax rfl (λh0=>Ap ?_) (λh0=>?_)))));have h0:(!decide (e=0))=true:=h0;have h0:¬e=0:=(by simpa using h0);unfold KF;rw [Ab h0];rfl;have h0:(!decide (e=0))=false:=h0;have h0:e=0:=by simpa using h0
 subst h0;exact Aa (r:=VARS) (by kernel_rfl) okv (Aa (UN Jj (by decide) (by decide) hx (by omega)) (DD BM _) (Ap rfl))
def rv (f:Nat):AJ 89 [.flt .f64 f,.flt .f64 f] (.bool true):=by refine Bx [none,none] [.flt .f64 f,.flt .f64 f] nw V6 rfl rfl rfl rfl rfl (by kernel_rfl) λY hf hg=>?_;unfold V6;refine Aq (Tj f) rfl rfl (Aq (Tj f) rfl rfl (Aa (Am ..) rfl (Ap ?_)));exact congrArg AV.bool (AD rfl)
def wI (k i:Int) (f:Nat):AJ 48 [.agg [.int .i64 k,.int .i64 i,.flt .f64 f],.agg [.int .i64 k,.int .i64 i,.flt .f64 f]] (.bool true):=by refine Bx [some 3,some 3] [.int .i64 k,.int .i64 i,.flt .f64 f,.int .i64 k,.int .i64 i,.flt .f64 f] j6 S9 rfl rfl rfl rfl rfl (by kernel_rfl) λY hf hg=>?_;unfold S9;refine Lh rfl (λ_=>?_) (λh=>absurd rfl h);refine Lh rfl (λ_=>?_) (λh=>absurd rfl h);exact Aq (rv f) rfl rfl (Ap rfl)
def v7 (g:GI):AJ 80 [.agg (k_ g),.agg (k_ g)] (.bool true):=by refine Bx [some 7,some 7] (k_ g++k_ g) qI lu rfl rfl rfl rfl rfl (by kernel_rfl) λY hf hg=>?_;unfold lu;refine Lh rfl (λ_=>?_) (λh=>absurd rfl h);refine Lh rfl (λ_=>?_) (λh=>absurd rfl h);refine Lh rfl (λ_=>?_) (λh=>absurd rfl h);refine Lh rfl (λ_=>?_) (λh=>absurd rfl h);exact Aq (wI _ _ _) rfl rfl (Ap rfl)
def wX {l:List GI} {x y:AV} (hx:SlV k_ 7 l x) (hy:SlV k_ 7 l y) (hl:l.length<=1000000):AJ 37 [x,y] (.bool true):=by
 refine Jb (sh:=[none,none]) (ls:=[x,y]) (c:=vF) (n:=300) (t:=cw) mo ov (by rcases hx with rfl|⟨_,rfl⟩<;>rcases hy with rfl|⟨_,rfl⟩<;>rfl) (by simp only [Ak,hx.ok BM,hy.ok BM]) rfl (λY _=>Cn _) rfl (by kernel_rfl) λY hf hg=>?_;unfold cw;refine Aa (Fp hx) rfl (Aa (Fp hy) rfl (Aa (Al ..) rfl (Ax rfl (λh=>?_) (λ_=>?_))));have h:(!decide ((l.length:Int)=(l.length:Int)))=true:=h;rw [AD rfl]at h;cases h;refine Dv (ι:=Nat) (λi=>[.int .i64 (i:Int)]) (λi=>i<=l.length) (λi=>l.length-i) 0 (za' _) rfl (λ_ _=>rfl) (λi j _ _ h=>?_) (λi hi=>?_)
 .have h:=(List.cons.inj h).1;injection h with _ h
  omega
 refine Aa (Fp hx) rfl (Aa (AX ..) rfl (Ax rfl (λhlt=>?_) (λ_=>Ap rfl)));have hlt:(i:Int)<(l.length:Int):=AU hlt;have hlt:i<l.length:=by omega
 refine Aa (IF hx hlt) (J8 l i) (BV (JT hlt) rfl (BM _) (Aa (IF hy hlt) (J8 l i) (BV (JT hlt) rfl (BM _) (Aq (v7 l[i]) rfl rfl (Aa (ET ..) rfl (Ax (t:=false) rfl (λh=>by cases h) (λ_=>Aa (AM ..) rfl (Cb rfl ⟨i+1,hlt,?_,?_⟩))))))));show [AV.int .i64 (IntKind.i64.wrap ((i:Int)+1))]=[AV.int .i64 ((i+1:Nat):Int)];rw [CS (by omega) (by omega)];rfl;omega
def ZV {l:List GI} {x y:AV} (hx:SlV k_ 7 l x) (hy:SlV k_ 7 l y) (hl:l.length<=1000000) {s:SS} {st st':AV} (hs:St s.m.st st) (hs':St s.m.st st') (h:EW s):AJ 12 [.agg (K_ x s st),.agg (K_ y s st')] (.bool true):=by
 have okv:okC VARS=true:=by kernel_rfl
 have okx:=hx.ok BM;have oky:=hy.ok BM;refine Bx [some 13,some 13] (K_ x s st++K_ y s st') UW Gc rfl (A9.okL_join (EV s okx hs.okC) (EV s oky hs'.okC)) rfl rfl rfl (by kernel_rfl) λY hf hg=>?_;unfold Gc;have hi:St s.im (c_ s.im):=SlV.of _;refine Aq k36 rfl rfl (Ax (t:=true) rfl (λ_=>?_) (λh=>by cases h));refine Aq (wX hx hy hl) rfl rfl (Ax (t:=true) rfl (λ_=>?_) (λh=>by cases h));refine Lh rfl (λ_=>?_) (λh=>absurd rfl h);refine Aq (jo hi hi h.im) rfl rfl (Ax (t:=true) rfl (λ_=>?_) (λh=>by cases h));refine Aq (qY hs hs' h.st h.mem) rfl rfl (Ax (t:=true) rfl (λ_=>?_) (λh=>by cases h));refine Lh rfl (λ_=>?_) (λh=>absurd rfl h);refine Aa (Am ..) rfl (Ap ?_);exact congrArg AV.bool (AD rfl)
def S_ (x:GI):Int×Int:=
 if x.op=1\/x.op=2 then (0,1)else if x.op=3\/x.op=17\/x.op=15\/x.op=16 then (1,1)else if x.op=18\/x.op=21 then (1,0)else if x.op=19 then (2,0)else if x.op=20\/x.op=23 then (0,0)else if x.op=22 then (x.n,0)else (2,1)
def B9 (x:GI) (n:Nat):Prop:=
 (x.op=2\/x.op=18->x.ad<21)/\(x.op=3\/x.op=19->x.ad=8/\x.n=4)/\(x.op=22->(x.kd=6/\x.ad=12)\/(x.kd=9/\x.ad=16)\/(x.kd=11/\x.ad=19))/\(x.op=20\/x.op=21->x.ad<(n:Int))
def B9.plc {x:GI} {n:Nat} (h:B9 x n):x.Plc n 21:=by
 obtain ⟨h1,h2,h3,h4⟩:=h;refine ⟨h1,λq=>?_,λq=>?_,h4⟩;obtain ⟨a,b⟩:=h2 q;rw [a,b];decide
 .rcases h3 q with ⟨a,b⟩|⟨a,b⟩|⟨a,b⟩<;>rw [a,b]<;>decide
def Iw {x:GI} (h:decide x.May=true):x.May:=AU h
def se (b:Nat) (hb:b<400):(n_ 20 0 b 0).May:=.inr ⟨show (20:Int)≠1 by decide,rfl,rfl,rfl,.inr (.inr (.inl ⟨.inl rfl,rfl,rfl,zh' b,by show (b:Int)<=399;omega⟩))⟩
def pI (b:Nat) (hb:b<400):(n_ 21 0 b 0).May:=.inr ⟨show (21:Int)≠1 by decide,rfl,rfl,rfl,.inr (.inr (.inl ⟨.inr rfl,rfl,rfl,zh' b,by show (b:Int)<=399;omega⟩))⟩
def rF {vk vi:Int} {vf:Nat} (h:1<=vk/\vk<=5/\0<=vi/\vi<50/\(vk=1->vi<=1)/\(vk=5->vi=0)/\(vk≠5->vf=0)) (hf:NB vf):GI.May ⟨1,vk,0,0,vk,vi,vf⟩:=by obtain ⟨h1,h2,h3,h4,h5,h6,h7⟩:=h;refine .inl ⟨rfl,rfl,rfl,rfl,?_⟩;show EK vk vi vf;by_cases e:vk=5;exact .inl ⟨e,h6 e⟩;refine .inr ⟨h7 e,?_⟩;by_cases e1:vk=1;have:=h5 e1;exact .inl ⟨e1,by omega⟩;by_cases e4:vk=4;exact .inr (.inr (.inr e4));omega
def gc {ad kd:Int} (h:(ad,kd)∈Jd):GI.May (n_ 2 0 ad 0)/\GI.May (n_ 18 0 ad 0)/\ad<21:=by simp only [Jd,CE,List.not_mem_nil,or_false,Prod.mk.injEq]at h;rcases h with ⟨rfl,_⟩|⟨rfl,_⟩|⟨rfl,_⟩|⟨rfl,_⟩|⟨rfl,_⟩|⟨rfl,_⟩|⟨rfl,_⟩|⟨rfl,_⟩|⟨rfl,_⟩|⟨rfl,_⟩|⟨rfl,_⟩<;>exact ⟨Iw (by kernel_rfl),Iw (by kernel_rfl),by decide⟩
def Ib:GI.May (n_ 3 0 8 4)/\GI.May (n_ 19 0 8 4)/\GI.May (n_ 23 0 0 0):=⟨Iw (by kernel_rfl),Iw (by kernel_rfl),Iw (by kernel_rfl)⟩
def vp {a b:Int} (h:2<=a/\a<=5/\2<=b/\b<=5):GI.May (n_ 17 a 0 b):=by rcases (by omega:a=2\/a=3\/a=4\/a=5)with rfl|rfl|rfl|rfl<;>rcases (by omega:b=2\/b=3\/b=4\/b=5)with rfl|rfl|rfl|rfl<;>exact Iw (by kernel_rfl)
def HB:GI.May (n_ 15 1 0 0)/\∀k:Int,2<=k/\k<=5->GI.May (n_ 16 k 0 0):=by refine ⟨Iw (by kernel_rfl),λk h=>?_⟩;rcases (by omega:k=2\/k=3\/k=4\/k=5)with rfl|rfl|rfl|rfl<;>exact Iw (by kernel_rfl)
def rj {op k:Int} (h:4<=op/\op<=14/\1<=k/\k<=5) (h1:op<=8->k≠1) (h2:op=8->k≠5) (h3:op=11\/op=12->k≠1) (h4:13<=op->k=1):GI.May (n_ op k 0 0):=by
 rcases (by omega:op=4\/op=5\/op=6\/op=7\/op=8\/op=9\/op=10\/op=11\/op=12\/op=13\/op=14)with rfl|rfl|rfl|rfl|rfl|rfl|rfl|rfl|rfl|rfl|rfl<;>
  rcases (by omega:k=1\/k=2\/k=3\/k=4\/k=5)with rfl|rfl|rfl|rfl|rfl<;>first|(exfalso;omega)|exact Iw (by kernel_rfl)
def ud {kd ad:Int} {ks:List Int} (h:Nl kd ad ks):GI.May (n_ 22 kd ad (ks.length:Int))/\ks.length<=2:=by rcases h with ⟨rfl,rfl,rfl⟩|⟨rfl,rfl,rfl⟩|⟨rfl,rfl,rfl⟩<;>exact ⟨Iw (by kernel_rfl),by decide⟩
def nx (h:Nat) (x:GI):Nat:=h-(S_ x).1.toNat+(S_ x).2.toNat
def run:Nat->List GI->Nat
 |h,[]=>h
 |h,x::r=>run (nx h x) r
theorem P_:∀(a b:List GI) (h:Nat),run h (a++b)=run (run h a) b
 |[],b,h=>rfl
 |x::a,b,h=>by simp only [Bg,run,P_ a b]
structure JI (T:Nat->Prop) (h:Nat) (x:GI):Prop where
 lo:0<=(S_ x).1/\0<=(S_ x).2
 le:(S_ x).1.toNat<=h
 up:nx h x<=16
 halt:x.op≠23
 jump:(x.op=20\/x.op=21)->nx h x=0/\∃k:Nat,T k/\x=n_ x.op 0 (k:Int) 0
 may:x.op≠20->x.op≠21->x.May/\∀n,B9 x n
def Ok (T:Nat->Prop):Nat->List GI->Prop
 |_,[]=>True
 |h,x::r=>JI T h x/\Ok T (nx h x) r
def lV {T:Nat->Prop}:∀(a b:List GI) (h:Nat),Ok T h a->Ok T (run h a) b->Ok T h (a++b)
 |[],b,h,_,h2=>h2
 |x::a,b,h,h1,h2=>⟨h1.1,lV a b _ h1.2 h2⟩
def ig {T:Nat->Prop}:∀(l:List GI) (h:Nat),Ok T h l->∀i (hi:i<l.length),JI T (run h (l.take i)) l[i]
 |[],h,_,i,hi=>by simp at hi
 |x::r,h,ho,0,hi=>ho.1
 |x::r,h,ho,i+1,hi=>ig r _ ho.2 i (by simpa using hi)
def E7_ {T:Nat->Prop} {h:Nat} {x:GI} (a b:Nat) (ht:S_ x=((a:Int),(b:Int))) (h1:a<=h) (h2:h-a+b<=16) (h3:x.op≠23/\x.op≠20/\x.op≠21) (hm:x.May) (hp:∀n,B9 x n):JI T h x/\nx h x=h-a+b:=by
 have e:nx h x=h-a+b:=by unfold nx;rw [ht];simp
 refine ⟨⟨by rw [ht];simp,by rw [ht];simpa using h1,by rw [e];exact h2,h3.1,λq=>?_,λ_ _=>⟨hm,hp⟩⟩,e⟩;rcases q with q|q;exact absurd q h3.2.1;exact absurd q h3.2.2
def JY {T:Nat->Prop} {h:Nat} {x:GI} {k:Nat} (hi:JI T h x/\nx h x=k):Ok T h [x]/\run h [x]=k:=⟨⟨hi.1,trivial⟩,hi.2⟩
def FF {T:Nat->Prop} {h k m:Nat} {a b:List GI} (ha:Ok T h a/\run h a=k) (hb:Ok T k b/\run k b=m):Ok T h (a++b)/\run h (a++b)=m:=by refine ⟨lV a b h ha.1 (by rw [ha.2];exact hb.1),by rw [P_,ha.2,hb.2]⟩
def R3 {x:GI} (h:x.op≠2/\x.op≠18/\x.op≠3/\x.op≠19/\x.op≠22/\x.op≠20/\x.op≠21) (n:Nat):B9 x n:=by obtain ⟨h1,h2,h3,h4,h5,h6,h7⟩:=h;refine ⟨λq=>?_,λq=>?_,λq=>absurd q h5,λq=>?_⟩;rcases q with q|q;exact absurd q h1;exact absurd q h2;rcases q with q|q;exact absurd q h3;exact absurd q h4;rcases q with q|q;exact absurd q h6;exact absurd q h7
def Vi {ag:List GX} {k:Int} {r:List Int} (h:ag.map GX.kd=k::r):EI ag=k:=by
 cases ag with
 |nil=>simp at h
 |cons a l=>simp at h;exact h.1
def Jc {T:Nat->Prop} {h:Nat} {x:GI} (o:Int) (hop:x.op=o) (a b:Nat) (ht:S_ x=((a:Int),(b:Int))) (h1:a<=h/\h-a+b<=16) (h3:o≠23/\o≠20/\o≠21) (hm:x.May) (hp:∀n,B9 x n):JI T h x/\nx h x=h-a+b:=
 E7_ a b ht h1.1 h1.2 (by rw [hop];exact h3) hm hp
def Nd {x:GI} (o:Int) (hop:x.op=o) (h:o≠2/\o≠18/\o≠3/\o≠19/\o≠22/\o≠20/\o≠21) (n:Nat):B9 x n:=R3 (by rw [hop];exact h) n
def rng {o:Int} (h:4<=o/\o<=14):(o≠1/\o≠2/\o≠3/\o≠17)/\(o≠23/\o≠20/\o≠21)/\(o≠2/\o≠18/\o≠3/\o≠19/\o≠22/\o≠20/\o≠21):=by refine ⟨⟨?_,?_,?_,?_⟩,⟨?_,?_,?_⟩,?_,?_,?_,?_,?_,?_,?_⟩<;>omega
def qW {x:GI} (h:4<=x.op/\x.op<=14):S_ x=(((2:Nat):Int),((1:Nat):Int)):=by unfold S_;rw [Ab (by omega),Ab (by omega),Ab (by omega),Ab (by omega),Ab (by omega),Ab (by omega)];rfl
def tZ {T:Nat->Prop} {d h:Nat} {op kd ad n vk vi:Int} {nm fd:List UInt8} {vf:Nat} {ag:List GX} (hx:TX (d+1) (.mk op kd nm fd ad n vk vi vf ag)) (h1:ag.length<=h) (h2:h-ag.length+1<=16):
  JI T h (N_ op kd ad n vk vi vf ag)/\nx h (N_ op kd ad n vk vi vf ag)=h-ag.length+1:=by
 have g:∀a,ag.length=a->(a<=h/\h-a+1<=16):=λa e=>by subst e;exact ⟨h1,h2⟩
 obtain ⟨ha,hf,hk1,hk5,hk,_⟩:=hx;obtain ⟨c1,c2,c3,c4,VD,Ue,L3⟩:=hk;rcases ha with ⟨ho,hl⟩|⟨ho,hl⟩|⟨ho,hl⟩;rcases ho with rfl|rfl;obtain ⟨q1,q2,q3,q4,q5,q6,q7,q8⟩:=c1 rfl;have e:N_ 1 kd ad n vk vi vf ag=⟨1,vk,0,0,vk,vi,vf⟩:=(by unfold N_;rw [Ad rfl]);have gg:=g _ hl;rw [e,hl];exact Jc 1 rfl 0 1 rfl gg (by decide) (rF ⟨q2,q3,q4,q5,q6,q7,q8⟩ hf) λn=>Nd 1 rfl (by decide) n;obtain ⟨m1,m2,m3⟩:=gc (c2 rfl);have e:N_ 2 kd ad n vk vi vf ag=n_ 2 0 ad 0:=(by unfold N_;rw [Ab (by decide),Ad rfl]);have gg:=g _ hl;rw [e,hl];exact Jc 2 rfl 0 1 rfl gg (by decide) m1 λn=>⟨λ_=>m3,λq=>absurd q (show ¬((2:Int)=3\/(2:Int)=19) by decide),λq=>absurd q (show ¬((2:Int)=22) by decide),λq=>absurd q (show ¬((2:Int)=20\/(2:Int)=21) by decide)⟩;rcases ho with rfl|rfl|rfl|rfl;obtain ⟨rfl,rfl,rfl,_⟩:=c3 rfl;have e:N_ 3 2 8 4 vk vi vf ag=n_ 3 0 8 4:=(by unfold N_;rw [Ab (by decide),Ab (by decide),Ad rfl]);have gg:=g _ hl;rw [e,hl];exact Jc 3 rfl 1 1 rfl gg (by decide) Ib.1 λn=>⟨λq=>absurd q (show ¬((3:Int)=2\/(3:Int)=18) by decide),λ_=>⟨rfl,rfl⟩,λq=>absurd q (show ¬((3:Int)=22) by decide),λq=>absurd q (show ¬((3:Int)=20\/(3:Int)=21) by decide)⟩;obtain ⟨rfl,hks⟩:=VD rfl;have e:N_ 15 1 ad n vk vi vf ag=n_ 15 1 0 0:=(by unfold N_;rw [Ab (by decide),Ab (by decide),Ab (by decide),Ab (by decide),Vi hks]);have gg:=g _ hl;rw [e,hl];exact Jc 15 rfl 1 1 rfl gg (by decide) HB.1 λn=>Nd 15 rfl (by decide) n;obtain ⟨hks,k2,k5⟩:=Ue rfl;have e:N_ 16 kd ad n vk vi vf ag=n_ 16 kd 0 0:=(by unfold N_;rw [Ab (by decide),Ab (by decide),Ab (by decide),Ab (by decide),Vi hks]);have gg:=g _ hl;rw [e,hl];exact Jc 16 rfl 1 1 rfl gg (by decide) (HB.2 kd ⟨k2,k5⟩) λn=>Nd 16 rfl (by decide) n;obtain ⟨k2,k5,k,hks,j2,j5⟩:=L3 rfl;have e:N_ 17 kd ad n vk vi vf ag=n_ 17 kd 0 k:=(by unfold N_;rw [Ab (by decide),Ab (by decide),Ab (by decide),Ad rfl,Vi hks]);have gg:=g _ hl;rw [e,hl];exact Jc 17 rfl 1 1 rfl gg (by decide) (vp ⟨k2,k5,j2,j5⟩) λn=>Nd 17 rfl (by decide) n;obtain ⟨k,hks,b1,b5,b8,b9,be,b11,b13⟩:=c4 ho;obtain ⟨⟨n1,n2,n3,n17⟩,r2,r3⟩:=rng ho;have e:N_ op kd ad n vk vi vf ag=n_ op k 0 0:=(by unfold N_;rw [Ab n1,Ab n2,Ab n3,Ab n17,Vi hks]);have gg:=g _ hl;rw [e,hl];exact Jc op rfl 2 1 (qW ho) gg r2 (rj ⟨ho.1,ho.2,b1,b5⟩ (λq=>(b8 q).2) be b11 b13) λn=>Nd op rfl r3 n
def Vd {T:Nat->Prop} {d:Nat} (ih:∀(x:GX) (h:Nat),TX d x->h+d<=16->Ok T h (l_ x)/\run h (l_ x)=h+1):∀(l:List GX) (h:Nat),(∀x∈l,TX d x)->h+l.length+d<=17->Ok T h (s_ l)/\run h (s_ l)=h+l.length
 |[],h,_,_=>⟨trivial,rfl⟩
 |a::r,h,hx,hl=>by simp only [List.length_cons]at hl;have h1:=ih a h (hx a (zd' ..)) (by omega);have h2:=Vd ih r (h+1) (λx q=>hx x (zi' _ q)) (by omega);have:=FF h1 h2;simp only [s_,List.length_cons];rw [show h+(r.length+1)=h+1+r.length by omega];exact this
def QS {T:Nat->Prop}:∀(d:Nat) (x:GX) (h:Nat),TX d x->h+d<=16->Ok T h (l_ x)/\run h (l_ x)=h+1
 |0,x,h,hx,_=>hx.elim
 |d+1,.mk op kd nm fd ad n vk vi vf ag,h,hx,hd=>by have hl:ag.length<=2:=(by have:=hx.1;unfold Dq at this;omega);have h1:=Vd (QS (T:=T) d) ag h hx.2.2.2.2.2 (by omega);have h2:=tZ (T:=T) (h:=h+ag.length) hx (by omega) (by omega);rw [show h+ag.length-ag.length+1=h+1 by omega]at h2;simp only [l_];exact FF h1 (JY h2)
def zd {T:Nat->Prop} {to:GX} (hx:TX 5 to) (ho:to.op=2\/to.op=3):Ok T 1 (FQ to)/\run 1 (FQ to)=0:=by obtain ⟨op,kd,nm,fd,ad,n,vk,vi,vf,ag⟩:=to;obtain ⟨ha,hf,hk1,hk5,hk,hargs⟩:=hx;obtain ⟨c1,c2,c3,c4,VD,Ue,L3⟩:=hk;have ho:op=2\/op=3:=ho;rcases ho with rfl|rfl;obtain ⟨m1,m2,m3⟩:=gc (c2 rfl);have e:FQ (.mk 2 kd nm fd ad n vk vi vf ag)=[n_ 18 0 ad 0]:=rfl;rw [e];exact JY (Jc 18 rfl 1 0 rfl (by decide) (by decide) m2 λn=>⟨λ_=>m3,λq=>absurd q (show ¬((18:Int)=3\/(18:Int)=19) by decide),λq=>absurd q (show ¬((18:Int)=22) by decide),λq=>absurd q (show ¬((18:Int)=20\/(18:Int)=21) by decide)⟩);obtain ⟨rfl,rfl,rfl,k,hks,_⟩:=c3 rfl;have hl:ag.length=1:=(by have:=congrArg List.length hks;simpa using this);have h1:=Vd (QS (T:=T) 4) ag 1 hargs (by rw [hl];decide);rw [hl]at h1;have e:FQ (.mk 3 2 nm fd 8 4 vk vi vf ag)=s_ ag++[n_ 19 0 8 4]:=rfl;rw [e];exact FF h1 (JY (Jc 19 rfl 2 0 rfl (by decide) (by decide) Ib.2.1 λn=>⟨λq=>absurd q (show ¬((19:Int)=2\/(19:Int)=18) by decide),λ_=>⟨rfl,rfl⟩,λq=>absurd q (show ¬((19:Int)=22) by decide),λq=>absurd q (show ¬((19:Int)=20\/(19:Int)=21) by decide)⟩))
theorem Lt (k:Int):nx 1 (n_ 21 0 k 0)=0:=rfl
theorem O2 (k:Int):nx 0 (n_ 20 0 k 0)=0:=rfl
def Wg {T:Nat->Prop} {k:Nat} (h:T k):JI T 1 (n_ 21 0 (k:Int) 0) where
 lo:=⟨show (0:Int)<=1 by decide,show (0:Int)<=0 by decide⟩
 le:=show (1:Nat)<=1 by decide
 up:=by rw [Lt];decide
 halt:=by show (21:Int)≠23;decide
 jump:=λ_=>⟨Lt _,k,h,rfl⟩
 may:=λ_ q=>absurd rfl q
def pb {T:Nat->Prop} {k:Nat} (h:T k):JI T 0 (n_ 20 0 (k:Int) 0) where
 lo:=⟨show (0:Int)<=0 by decide,show (0:Int)<=0 by decide⟩
 le:=show (0:Nat)<=0 by decide
 up:=by rw [O2];decide
 halt:=by show (20:Int)≠23;decide
 jump:=λ_=>⟨O2 _,k,h,rfl⟩
 may:=λq _=>absurd rfl q
def DM (T:Nat->Prop) (b:Nat) (W:List GI):Prop:=∀m,m<=W.length->run 0 (W.take m)=0->T (b+m)
def DM.seg {T:Nat->Prop} {b:Nat} {P Q R:List GI} (hP:run 0 P=0) (h:DM T b (P++(Q++R))):DM T (b+P.length) Q:=λm hm hr=>by have:=h (P.length+m) (by simp only [Az];omega) (by rw [List.take_length_add_append,List.take_append_of_le_length hm,P_,hP];exact hr);rw [Nat.add_assoc];exact this
def DM.at {T:Nat->Prop} {b:Nat} {P Q:List GI} (hP:run 0 P=0) (h:DM T b (P++Q)):T (b+P.length):=
 h P.length (by simp only [Az];omega) (by rw [List.take_left];exact hP)
def DM.end {T:Nat->Prop} {b:Nat} {P:List GI} (hP:run 0 P=0) (h:DM T b P):T (b+P.length):=
 h P.length (zb' _) (by rw [List.take_length];exact hP)
def Og {T:Nat->Prop} {d:Nat} (ih:∀(s:GS) (b:Nat),TS d s->DM T b (D_ b s)->Ok T 0 (D_ b s)/\run 0 (D_ b s)=0):∀(l:List GS) (b:Nat),(∀s∈l,TS d s)->DM T b (i_ b l)->Ok T 0 (i_ b l)/\run 0 (i_ b l)=0
 |[],b,_,_=>⟨trivial,rfl⟩
 |s::r,b,hs,ha=>by
  simp only [i_]at ha⊢;have ha1:DM T b (D_ b s):=by have:=DM.seg (P:=[]) (Q:=D_ b s) (R:=i_ (b+(D_ b s).length) r) rfl ha;exact this
  have h1:=ih s b (hs s (zd' ..)) ha1;have ha2:DM T (b+(D_ b s).length) (i_ (b+(D_ b s).length) r):=DM.seg (P:=D_ b s) (R:=[]) h1.2 (by rw [List.append_nil];exact ha);have h2:=Og ih r _ (λx q=>hs x (zi' _ q)) ha2;exact FF h1 h2
def Rh {T:Nat->Prop}:∀(d:Nat) (s:GS) (b:Nat),TS d s->DM T b (D_ b s)->Ok T 0 (D_ b s)/\run 0 (D_ b s)=0
 |0,s,b,hs,_=>hs.elim
 |d+1,.mk op to e thn els nm kd ad ag,b,hs,ha=>by rcases hs with ⟨rfl,hto,hop,he,_⟩|⟨hop,he,_,_,_,hthn,hels⟩|⟨rfl,hb,hargs⟩;have e1:D_ b (.mk 1 to e thn els nm kd ad ag)=l_ e++FQ to:=(by unfold D_;rw [Ad rfl]);rw [e1];exact FF (QS 6 e 0 he (by decide)) (zd hto (hop.elim (λh=>.inl h.1) .inr));have hc:=QS (T:=T) 5 e 0 he (by decide);rcases hop with rfl|rfl;by_cases hE:els=[];have e1:D_ b (.mk 2 to e thn els nm kd ad ag)=l_ e++[n_ 21 0 ((b+(l_ e).length+1+(i_ (b+(l_ e).length+1) thn).length:Nat):Int) 0]++i_ (b+(l_ e).length+1) thn:=(by unfold D_;rw [Ab (by decide),Ad rfl,Ad hE]);rw [e1]at ha⊢;obtain ⟨k,hk⟩:∃k,k=b+(l_ e).length+1+(i_ (b+(l_ e).length+1) thn).length:=⟨_,rfl⟩;rw [←hk]at ha⊢;have hP:run 0 (l_ e++[n_ 21 0 (k:Int) 0])=0:=(by rw [P_,hc.2];exact Lt _);have hPl:b+(l_ e++[n_ 21 0 (k:Int) 0]).length=b+(l_ e).length+1:=(by simp only [Az,List.length_cons,AK];omega);have ht:=Og (Rh (T:=T) d) thn (b+(l_ e).length+1) hthn (by have:=DM.seg (R:=[]) hP (by rw [List.append_nil];exact ha);rw [hPl]at this;exact this);have hW:run 0 (l_ e++[n_ 21 0 (k:Int) 0]++i_ (b+(l_ e).length+1) thn)=0:=(by rw [P_,hP,ht.2]);have hT:=DM.end hW ha;have hkT:T k:=(by have:b+(l_ e++[n_ 21 0 (k:Int) 0]++i_ (b+(l_ e).length+1) thn).length=k:=(by simp only [Az,List.length_cons,AK];omega);rw [this]at hT;exact hT);exact FF (FF hc (JY ⟨Wg hkT,Lt _⟩)) ht;have e1:D_ b (.mk 2 to e thn els nm kd ad ag)=l_ e++[n_ 21 0 ((b+(l_ e).length+1+(i_ (b+(l_ e).length+1) thn).length+1:Nat):Int) 0]++i_ (b+(l_ e).length+1) thn++[n_ 20 0 ((b+(l_ e).length+1+(i_ (b+(l_ e).length+1) thn).length+1+(i_ (b+(l_ e).length+1+(i_ (b+(l_ e).length+1) thn).length+1) els).length:Nat):Int) 0]++i_ (b+(l_ e).length+1+(i_ (b+(l_ e).length+1) thn).length+1) els:=(by unfold D_;rw [Ab (by decide),Ad rfl,Ab hE]);rw [e1]at ha⊢;obtain ⟨t,ht0⟩:∃t,t=i_ (b+(l_ e).length+1) thn:=⟨_,rfl⟩;rw [←ht0]at ha⊢;obtain ⟨k,hk⟩:∃k,k=b+(l_ e).length+1+t.length+1:=⟨_,rfl⟩;rw [←hk]at ha⊢;obtain ⟨q,hq0⟩:∃q,q=i_ k els:=⟨_,rfl⟩;rw [←hq0]at ha⊢;obtain ⟨j,hj⟩:∃j,j=k+q.length:=⟨_,rfl⟩;rw [←hj]at ha⊢;have hP:run 0 (l_ e++[n_ 21 0 (k:Int) 0])=0:=(by rw [P_,hc.2];exact Lt _);have hPl:b+(l_ e++[n_ 21 0 (k:Int) 0]).length=b+(l_ e).length+1:=(by simp only [Az,List.length_cons,AK];omega);have ht:=Og (Rh (T:=T) d) thn (b+(l_ e).length+1) hthn (by have:=DM.seg (P:=l_ e++[n_ 21 0 (k:Int) 0]) (Q:=t) (R:=[n_ 20 0 (j:Int) 0]++q) hP (by simpa only [Bo]using ha);rw [hPl,ht0]at this;exact this);rw [←ht0]at ht;have hP2:run 0 (l_ e++[n_ 21 0 (k:Int) 0]++t++[n_ 20 0 (j:Int) 0])=0:=(by rw [P_,P_,hP,ht.2];exact O2 _);have hPl2:b+(l_ e++[n_ 21 0 (k:Int) 0]++t++[n_ 20 0 (j:Int) 0]).length=k:=(by simp only [Az,List.length_cons,AK];omega);have hq:=Og (Rh (T:=T) d) els k hels (by have:=DM.seg (R:=[]) hP2 (by rw [List.append_nil];exact ha);rw [hPl2,hq0]at this;exact this);rw [←hq0]at hq;have hkT:T k:=(by have:=DM.at hP2 ha;rw [hPl2]at this;exact this);have hW:run 0 (l_ e++[n_ 21 0 (k:Int) 0]++t++[n_ 20 0 (j:Int) 0]++q)=0:=(by rw [P_,hP2,hq.2]);have hjT:T j:=(by have:=DM.end hW ha;rw [List.length_append,←Nat.add_assoc,hPl2,←hj]at this;exact this);exact FF (FF (FF (FF hc (JY ⟨Wg hkT,Lt _⟩)) ht) (JY ⟨pb hjT,O2 _⟩)) hq;have e1:D_ b (.mk 3 to e thn els nm kd ad ag)=l_ e++[n_ 21 0 ((b+(l_ e).length+1+(i_ (b+(l_ e).length+1) thn).length+1:Nat):Int) 0]++i_ (b+(l_ e).length+1) thn++[n_ 20 0 (b:Int) 0]:=(by unfold D_;rw [Ab (by decide),Ab (by decide),Ad rfl]);rw [e1]at ha⊢;obtain ⟨t,ht0⟩:∃t,t=i_ (b+(l_ e).length+1) thn:=⟨_,rfl⟩;rw [←ht0]at ha⊢;obtain ⟨k,hk⟩:∃k,k=b+(l_ e).length+1+t.length+1:=⟨_,rfl⟩;rw [←hk]at ha⊢;have hP:run 0 (l_ e++[n_ 21 0 (k:Int) 0])=0:=(by rw [P_,hc.2];exact Lt _);have hPl:b+(l_ e++[n_ 21 0 (k:Int) 0]).length=b+(l_ e).length+1:=(by simp only [Az,List.length_cons,AK];omega);have ht:=Og (Rh (T:=T) d) thn (b+(l_ e).length+1) hthn (by have:=DM.seg (P:=l_ e++[n_ 21 0 (k:Int) 0]) (Q:=t) (R:=[n_ 20 0 (b:Int) 0]) hP (by simpa only [Bo]using ha);rw [hPl,ht0]at this;exact this);rw [←ht0]at ht;have hW:run 0 (l_ e++[n_ 21 0 (k:Int) 0]++t++[n_ 20 0 (b:Int) 0])=0:=(by rw [P_,P_,hP,ht.2];exact O2 _);have hkT:T k:=(by have:=DM.end hW ha;have h2:b+(l_ e++[n_ 21 0 (k:Int) 0]++t++[n_ 20 0 (b:Int) 0]).length=k:=(by simp only [Az,List.length_cons,AK];omega);rw [h2]at this;exact this);have hbT:T b:=(by have:=ha 0 (za' _) rfl;exact this);exact FF (FF (FF hc (JY ⟨Wg hkT,Lt _⟩)) ht) (JY ⟨pb hbT,O2 _⟩);have e1:D_ b (.mk 4 to e thn els nm kd ad ag)=s_ ag++[n_ 22 kd ad (ag.length:Int)]:=(by unfold D_;rw [Ab (by decide),Ab (by decide),Ab (by decide)]);obtain ⟨hm,hl⟩:=ud hb;rw [List.length_map]at hm hl;rw [e1];have h1:=Vd (QS (T:=T) 5) ag 0 hargs.1 (by omega);rw [Nat.zero_add]at h1;have h3:=Jc (T:=T) (h:=ag.length) (x:=n_ 22 kd ad (ag.length:Int)) 22 rfl ag.length 0 rfl (by omega) (by decide) hm λn=>⟨λq=>absurd q (show ¬((22:Int)=2\/(22:Int)=18) by decide),λq=>absurd q (show ¬((22:Int)=3\/(22:Int)=19) by decide),λ_=>?_,λq=>absurd q (show ¬((22:Int)=20\/(22:Int)=21) by decide)⟩;rw [Nat.sub_self]at h3;exact FF h1 (JY h3);rcases hb with ⟨a,b,_⟩|⟨a,b,_⟩|⟨a,b,_⟩;exact .inl ⟨a,b⟩;exact .inr (.inl ⟨a,b⟩);exact .inr (.inr ⟨a,b⟩)
def qf (x:GI) (i h n:Nat) (ht:Nat->Nat):Prop:=((x.op=20\/x.op=21)->∃k:Nat,x.ad=(k:Int)/\k<n/\ht k=h)/\(x.op≠20->x.op≠23->i+1<n/\ht (i+1)=h)
structure FG (l:List GI) (ht:Nat->Nat):Prop where
 n1:0<l.length
 n4:l.length<=400
 last:∀h:l.length-1<l.length,l[l.length-1].op=23
 zero:ht 0=0
 le:∀i,ht i<=16
 may:∀x∈l,x.May
 plc:∀x∈l,x.Plc l.length 21
 step:∀i (h:i<l.length),∃a b:Nat,S_ l[i]=((a:Int),(b:Int))/\a<=ht i/\ht i-a+b<=16/\qf l[i] i (ht i-a+b) l.length ht
def dL (l:List GI) (i:Nat) (h:i<l.length) (k:Nat):run k (l.take (i+1))=nx (run k (l.take i)) l[i]:=by rw [List.take_succ_eq_append_getElem h,P_];rfl
def stands {x:List GS} (hx:∀s∈x,TS 3 s) (h4:(q_ x).length<=400):FG (q_ x) (λi=>run 0 ((q_ x).take i)):=by
 obtain ⟨G,hG⟩:∃G,G=i_ 0 x:=⟨_,rfl⟩;have hL:q_ x=G++[n_ 23 0 0 0]:=by rw [hG];rfl
 rw [hL]at h4⊢;obtain ⟨T,hT⟩:∃T:Nat->Prop,T=λk=>k<(G++[n_ 23 0 0 0]).length/\run 0 ((G++[n_ 23 0 0 0]).take k)=0:=⟨_,rfl⟩;have hlen:(G++[n_ 23 0 0 0]).length=G.length+1:=by simp
 have aim:DM T 0 (i_ 0 x):=λm hm hr=>by rw [←hG]at hm hr;rw [hT,Nat.zero_add];exact ⟨by omega,by rw [List.take_append_of_le_length hm];exact hr⟩
 have hok:=Og (Rh (T:=T) 3) x 0 hx aim;rw [←hG]at hok;obtain ⟨ok,hr0⟩:=hok;have at1:∀i (h:i<(G++[n_ 23 0 0 0]).length),(i<G.length/\JI T (run 0 ((G++[n_ 23 0 0 0]).take i)) (G++[n_ 23 0 0 0])[i])\/(i=G.length/\(G++[n_ 23 0 0 0])[i]=n_ 23 0 0 0):=λi h=>by by_cases hi:i<G.length;refine .inl ⟨hi,?_⟩;have:=ig G 0 ok i hi;rw [List.take_append_of_le_length (by omega),List.getElem_append_left hi];exact this;have e:i=G.length:=(by omega);subst e;exact .inr ⟨rfl,by simp⟩
 have hh:nx 0 (n_ 23 0 0 0)=0:=rfl;have hrL:run 0 (G++[n_ 23 0 0 0])=0:=by rw [P_,hr0];exact hh
 have mem:∀y∈G++[n_ 23 0 0 0],∃i,∃h:i<(G++[n_ 23 0 0 0]).length,y=(G++[n_ 23 0 0 0])[i]:=λy hy=>by obtain ⟨i,h,e⟩:=List.mem_iff_getElem.1 hy;exact ⟨i,h,e.symm⟩
 refine ⟨by omega,h4,λh=>?_,rfl,λi=>?_,λy hy=>?_,λy hy=>?_,λi h=>?_⟩;rcases at1 _ h with ⟨q,_⟩|⟨_,q⟩;omega;rw [q];rfl
 .cases i with
  |zero=>exact za' _
  |succ i=>by_cases hi:i<(G++[n_ 23 0 0 0]).length;show run 0 ((G++[n_ 23 0 0 0]).take (i+1))<=16;rw [dL _ i hi];rcases at1 i hi with ⟨_,q⟩|⟨e,q⟩;exact q.up;rw [q,e,List.take_left,hr0,hh];exact za' _;show run 0 ((G++[n_ 23 0 0 0]).take (i+1))<=16;rw [List.take_of_length_le (by omega),hrL];exact za' _
 obtain ⟨i,h,rfl⟩:=mem y hy;rcases at1 i h with ⟨_,q⟩|⟨_,q⟩;by_cases hj:(G++[n_ 23 0 0 0])[i].op=20\/(G++[n_ 23 0 0 0])[i].op=21;obtain ⟨_,k,hk,e⟩:=q.jump hj;rw [hT]at hk;have hk:=hk.1;rcases hj with hj|hj;rw [e,hj];exact se k (by omega);rw [e,hj];exact pI k (by omega);exact (q.may (λe=>hj (.inl e)) (λe=>hj (.inr e))).1;rw [q];exact Ib.2.2;obtain ⟨i,h,rfl⟩:=mem y hy;refine B9.plc ?_;rcases at1 i h with ⟨_,q⟩|⟨_,q⟩;by_cases hj:(G++[n_ 23 0 0 0])[i].op=20\/(G++[n_ 23 0 0 0])[i].op=21;obtain ⟨_,k,hk,e⟩:=q.jump hj;rw [hT]at hk;have hk:=hk.1;have ho:∀o:Int,(o=20\/o=21)->B9 (n_ o 0 (k:Int) 0) (G++[n_ 23 0 0 0]).length:=λo ho=>(by have e0:(n_ o 0 (k:Int) 0).op=o:=rfl;refine ⟨λq=>?_,λq=>?_,λq=>?_,λ_=>?_⟩;rw [e0]at q;omega;rw [e0]at q;omega;rw [e0]at q;omega;show (k:Int)<_;omega);rw [e];exact ho _ hj;exact (q.may (λe=>hj (.inl e)) (λe=>hj (.inr e))).2 _;rw [q];exact Nd 23 rfl (by decide) _;rcases at1 i h with ⟨hi,q⟩|⟨_,q⟩;have h27:S_ (G++[n_ 23 0 0 0])[i]=((S_ (G++[n_ 23 0 0 0])[i]).1,(S_ (G++[n_ 23 0 0 0])[i]).2):=rfl;have e1:=ze' q.lo.1;have e2:=ze' q.lo.2;refine ⟨_,_,by rw [e1,e2],q.le,q.up,λhj=>?_,λ_ _=>⟨by omega,dL _ i h 0⟩⟩;obtain ⟨h0,k,hk,e⟩:=q.jump hj;rw [hT]at hk;refine ⟨k,by rw [e];rfl,hk.1,?_⟩;exact hk.2.trans h0.symm;have h27:S_ (n_ 23 0 0 0)=(((0:Nat):Int),((0:Nat):Int)):=rfl;rw [q];exact ⟨0,0,h27,za' _,by have:=za' 16;show run 0 _-0+0<=16;rw [show i=G.length by omega,List.take_left,hr0];exact this,λhj=>absurd hj (show ¬((23:Int)=20\/(23:Int)=21) by decide),λ_ hn=>absurd rfl hn⟩
def BX_ (x:GI):(S_ x).1.toNat=d_ x/\(S_ x).2.toNat=(u_ x.op).toNat:=by
 unfold S_ d_ u_
 (repeat' split)<;>first|exact ⟨rfl,rfl⟩|(exfalso;omega)|(refine ⟨?_,?_⟩<;>simp_all<;>omega)
def lj {l:List GI} {ht:Nat->Nat} (h:FG l ht) {w:Nat×Nat} (hw:w.1<l.length) (he:w.2=ht w.1):(m_ l).full w=false/\∀w'∈(m_ l).nxt w,w'.1<l.length/\w'.2=ht w'.1:=by
 obtain ⟨i,k⟩:=w;have hw:i<l.length:=hw;have he:k=ht i:=he;subst he;obtain ⟨a,b,h1,h2,h3,hg⟩:=h.step i hw;obtain ⟨q1,q2⟩:=BX_ l[i];rw [h1]at q1 q2;have q1:a=d_ l[i]:=by simpa using q1
 have q2:b=(u_ l[i].op).toNat:=by simpa using q2
 have ei:l[i]? =some l[i]:=List.getElem?_eq_getElem hw;have t1:(m_ l).tk i=a:=by simp only [m_,ei,q1]
 have t2:(m_ l).lv i=b:=by simp only [m_,ei,q2]
 have t3:(m_ l).goes i=t_ l[i] i:=by simp only [m_,ei]
 have f0:(m_ l).full (i,ht i)=false:=by unfold WG.full;simp only [t1,t2,Bool.or_eq_false_iff,AY];omega
 refine ⟨f0,λw' hn=>?_⟩;obtain ⟨_,n1,n2,_⟩:=WG.nxt_hi hn;have n1:w'.2=ht i-a+b:=by rw [n1];show ht i-(m_ l).tk i+(m_ l).lv i=_;rw [t1,t2]
 have n2:w'.1∈t_ l[i] i:=by rw [←t3];exact n2
 obtain ⟨g1,g2⟩:=hg;unfold t_ at n2;split at n2;cases n2
 next h23=>
 split at n2
 next h20=>
  obtain ⟨k,e1,e2,e3⟩:=g1 (.inl h20);rw [e1]at n2;have n2:w'.1=k:=(by simpa using n2);rw [n1,n2];exact ⟨e2,e3.symm⟩
 next h20=>
 have g2:=g2 h20 h23;split at n2
 next h21=>
  obtain ⟨k,e1,e2,e3⟩:=g1 (.inr h21);rw [e1]at n2;have n2:w'.1=k\/w'.1=i+1:=(by simpa using n2);rcases n2 with n2|n2;rw [n1,n2];exact ⟨e2,e3.symm⟩;rw [n1,n2];exact ⟨g2.1,g2.2.symm⟩
 next h21=>
  have n2:w'.1=i+1:=(by simpa using n2);rw [n1,n2];exact ⟨g2.1,g2.2.symm⟩
def Wu {l:List GI} {ht:Nat->Nat} (h:FG l ht) {w:Nat×Nat} (hr:(m_ l).Reach w):w.1<l.length/\w.2=ht w.1:=by
 induction hr with
 |zero=>exact ⟨h.n1,h.zero.symm⟩
 |step _ hw ih=>exact (lj h ih.1 ih.2).2 _ hw
def nD {x:List GS} (hx:∀s∈x,TS 3 s) (h4:(q_ x).length<=400):Hy (q_ x) 21 0:=by
 have h:=stands hx h4;have hA:Dd (q_ x):=⟨h.n1,h.n4,h.may,h.last⟩;have hF:DP (q_ x) 21:=hA.form h.plc;have n1:¬(m_ (q_ x)).Full:=λ⟨w,hr,hf⟩=>by obtain ⟨a,b⟩:=Wu h hr;rw [(lj h a b).1]at hf;cases hf
 have n2:¬(m_ (q_ x)).Two:=λ⟨a,k,k',h1,h2,hne⟩=>hne ((Wu h h1).2.trans (Wu h h2).2.symm);exact ⟨λq=>absurd hA q,λ_ q=>absurd h.plc q,λ_ q=>absurd q n1,λ_ _ q=>absurd q n2,λ_ _ _=>rfl⟩
def JQ:FT:=⟨0,⟨[(0,.agg (hs 0 13))],[],0,13,[],[],[]⟩,[(false,⟨[(0,.tup [.agg (hs 0 13),.slx 13 0 0])],[],0,14,[],[],[]⟩)]⟩
def Xb:FT:=JQ
def tW:VC:=⟨⟨[],[]⟩,[(31,[(some 13)]),(39,[(some 7)])],[],0,true,[]⟩
def NE:VT:=.call 31 [.agg (Ae 64 13)] 78 [(some 13)]<|It Z3 [89,J 0] 91 (.call 39 [81,77] 92 [(some 7)]<|.done (.agg ([78,79,80,81]++Ae 92 7++[89,90])))<|.done (.agg (Ae 78 13))
def yb:VC:=⟨⟨[],[]⟩,[(40,[(some 7)])],[],0,true,[]⟩
def O0:VT:=It Z3 [75,J 0] 78 (.call 40 [67,77] 79 [(some 7)]<|.done (.agg ([64,65,66,67]++Ae 79 7++[75,76])))<|.done (.agg (Ae 64 13))
def Ie_:VC:=⟨⟨[],[]⟩,[],[],0,true,[]⟩
def hU:VT:=Li Qz [65] 66<|It Qd [66,J 21] 67 (Dn [.nsl])<|It Zj [65,.nsl] 68 (Li Qw [.nsl,J 2] 69 .bad)<|Li Qe [.vsl 0 3 [],65] 69<|Li Q2 [69,J 2] 70<|Li Z1 [69,70,.agg [J 2,J 7,.flt .f64 0]] 71<|Li Q2 [69,J 3] 72<|Li Z1 [71,72,.agg [J 1,J 1,.flt .f64 0]] 73<|.chk (.same 69 73)<|Dn [73]
def vG:VC:=⟨⟨[],[]⟩,[],[],0,true,[]⟩
def ph:VT:=Li Qz [65] 66<|It Qd [66,J 21] 67 (Dn [.nsl])<|Li Qe [.vsl 0 3 [],65] 68<|Li Q2 [68,J 2] 69<|Li Z1 [68,69,.agg [J 2,J 7,.flt .f64 0]] 70<|Li Q2 [68,J 3] 71<|Li Z1 [70,71,.agg [J 1,J 1,.flt .f64 0]] 72<|.chk (.same 68 72)<|Dn [72]
def VD:VC:=⟨⟨[],[]⟩,[(31,[(some 13)]),(42,[none])],[],0,true,[(41,Y7),(43,EY)]⟩
def L4:VT:=.call 31 [.agg (Ae 64 13)] 77 [(some 13)]<|It Q7 [88,J 0] 90 (Dn (Ae 77 13++[.bool true]))<|.ite 86 (Dn (Ae 77 13++[.bool true]))<|It Z7 [84,79] 91 (.ite 86 (.call 42 [83] 92 [none]<|Li Q3 [89,J 1] 93<|Dn ([77,78,79,92]++Ae 81 6++[J 8,88,93,.bool true]))<|Cf 43 EY [77,80] 92 1<|Li Q3 [89,J 1] 95<|Dn ([77,78,79,94]++Ae 81 6++[J 8,J 8,95,.bool true]))<|Cf 41 Y7 ([78]++Ae 81 7) 92 7<|.ite 105 (.call 42 [102] 107 [none]<|Li Q3 [89,J 1] 108<|Dn ([77,78,79,107]++Ae 100 7++[88,108,.bool true]))<|It Q7 [106,J 0] 107 (Cf 43 EY [77,80] 108 1<|Li Q3 [89,J 1] 111<|Dn ([77,78,79,110]++Ae 100 7++[106,111,.bool true]))<|Dn ([77,78,79,80]++Ae 100 7++[88,89,.bool false])
def Ue:VC:=⟨⟨[],[]⟩,[],[],0,true,[(44,JU),(21,Vn)]⟩
def F3:VT:=It Q7 [75,J 0] 77 (Dn (Ae 64 13++[.bool true]))<|.ite 73 (Dn (Ae 64 13++[.bool true]))<|It Z7 [71,66] 78 (.ite 73 (Li Qe [.vsl 0 3 [],70] 79<|Li Q3 [76,J 1] 80<|Dn ([64,65,66,79]++Ae 68 6++[J 8,75,80,.bool true]))<|Cf 21 Vn [64,67] 79 1<|Li Q3 [76,J 1] 82<|Dn ([64,65,66,81]++Ae 68 6++[J 8,J 8,82,.bool true]))<|Cf 44 JU ([65]++Ae 68 7) 79 7<|.ite 92 (Li Qe [.vsl 0 3 [],89] 94<|Li Q3 [76,J 1] 95<|Dn ([64,65,66,94]++Ae 87 7++[75,95,.bool true]))<|It Q7 [93,J 0] 94 (Cf 21 Vn [64,67] 95 1<|Li Q3 [76,J 1] 98<|Dn ([64,65,66,97]++Ae 87 7++[93,98,.bool true]))<|Dn ([64,65,66,67]++Ae 87 7++[75,76,.bool false])
def Ft (l:List FV):List FV:=(l.set 2 ⟨2,7,some 0⟩).set 3 ⟨1,1,some 0⟩
def gz {l:List FV} (h:Aw l):(Ft l).length=21:=by unfold Ft;rw [List.length_set,List.length_set,h.len]
def dM {l:List FV} (h:Aw l):Aw (Ft l):=by
 obtain ⟨a0,a1,a2,a3,a4,a5,a6,a7,a8,a9,a10,a11,a12,a13,a14,a15,a16,a17,a18,a19,a20,rfl⟩:=EG h.len;have t2:TV ⟨2,7,some 0⟩:=by simp only [TV,DY];decide
 have t3:TV ⟨1,1,some 0⟩:=by simp only [TV,DY];decide
 exact ((h.set (i:=2) (Nat.lt_of_lt_of_eq (by decide) h.len.symm) t2 (by have:=(Aw.of.1 h);show (2:Int)=a2.k;exact this.1.2.2.1.symm)).set (i:=3) (by rw [List.length_set,h.len];decide) t3 (by have:=(Aw.of.1 h);show (1:Int)=a3.k;exact this.1.2.2.2.1.symm))
def nG (l:List FV):Nat->List AV->Prop:=λ_ ws=>ws=[c_ l]
def iO {l:List FV} {B:World} {pr:Nat->Prop} {E:Ag} {w:World} {us:List Value} (h:∀(i:Nat) (a:AV),[VARS,c_ l][i]? =some a->E.sy (64+i)=some a) (hr:As B pr E (EY.ent.heap 64) w) (hc:Ah E (CB 64 (DE EY.ent.slots)) us):
  As B pr E H0 w/\Ah E [VARS,.sym 65] us:=by
 refine ⟨hr,?_⟩;have e:CB 64 (DE EY.ent.slots)=[.sym 64,.sym 65]:=by kernel_rfl
 rw [e]at hc;have e2:[VARS,AV.sym 65]=EO 0 VARS [.sym 64,.sym 65]:=rfl;rw [e2];refine KJ (a:=.sym 64) (λv hv=>?_) 0 _ _ rfl hc;obtain ⟨a,h1,_,h3⟩:=hv;have:=h 0 VARS rfl;rw [h1]at this;cases this;exact h3.con
def Xa {l:List FV} (h:l.length=21):∃r,c_ l=.vsl 21 3 r/\(XOp.bin .eql 34 false true).run Tryz.prog [c_ l,.nsl]=some (.bool false):=by
 cases l with
 |nil=>cases h
 |cons a r=>have h:r.length+1=21:=h;refine ⟨Ay f_ (a::r),by show AV.vsl (r.length+1) 3 _=_;rw [h],by kernel_rfl⟩
def gY (l:List FV):(XOp.len 34).run Tryz.prog [c_ l]=some (.int .i64 (l.length:Int)):=(SlV.of (enc:=f_) (w:=3) l).len Tryz.underlying34
def ZY {l:List FV} (h:l.length=21):(XOp.app 3 24).run Tryz.prog [.vsl 0 3 [],c_ l]=some (c_ l):=by have:=UN (l:=l) Eh (by decide) (by decide) (b:=24) (SlV.of (enc:=f_) (w:=3) l) (by omega);exact this.trans (congrArg some (Um (λe=>by rw [e]at h;cases h)))
def fM {Y:Sy} {i j:Nat} {l l':List FV} (h1:Y.v i=some (c_ l)) (h2:Y.v j=some (c_ l')) (h:l.length=21) (h':l'.length=21):(Dl.same i j).ok Y:=by obtain ⟨r,e,_⟩:=Xa h;obtain ⟨r',e',_⟩:=Xa h';rw [e]at h1;rw [e']at h2;exact .inr ⟨21,3,_,_,h1,h2⟩
def jT {l:List FV} (h:Aw l):Bl 43 EY [VARS,c_ l] (nG (Ft l)):=by
 have hl:=h.len;have hl2:(l.set 2 ⟨2,7,some 0⟩).length=21:=by rw [List.length_set];exact hl
 refine Ll (c:=Ie_) (ex:=[]) (ag:=[VARS,.sym 65]) (H:=H0) (n:=300) (t:=hU) mo ov rfl (λY=>Cn _) rfl (λB pr E w us h _ hr hc=>iO h hr hc) (by kernel_rfl) λY hf hg=>?_;unfold hU;obtain ⟨_,_,hnn⟩:=Xa hl;refine Aa (gY l) rfl (Aa (Al ..) rfl (Ax rfl (λhc=>?_) (λ_=>?_)));have hc:(!decide ((l.length:Int)=21))=true:=hc;rw [AD (by omega)]at hc;cases hc;refine Aa hnn rfl (Ax (t:=false) rfl (λh=>by cases h) (λ_=>?_));refine Aa (ZY hl) (G_ _) (Aa (A_ l (i:=2) (by omega)) rfl (Aa (Kw l (i:=2) (by omega) ⟨2,7,some 0⟩) (G_ _) (Aa (A_ l (i:=3) (by omega)) rfl (Aa (Kw _ (i:=3) (by omega) ⟨1,1,some 0⟩) (G_ _) (Ea (fM rfl rfl hl (gz h)) ?_)))));exact Ai (by show Ak [c_ _]=true;simp only [Ak,G_]) rfl
def eR {l:List FV} (h:Aw l):Bl 21 Vn [VARS,c_ l] (nG (Ft l)):=by
 have hl:=h.len;have hl2:(l.set 2 ⟨2,7,some 0⟩).length=21:=by rw [List.length_set];exact hl
 refine Ll (c:=vG) (ex:=[]) (ag:=[VARS,.sym 65]) (H:=H0) (n:=300) (t:=ph) mo ov rfl (λY=>Cn _) rfl (λB pr E w us h _ hr hc=>iO h hr hc) (by kernel_rfl) λY hf hg=>?_;unfold ph;refine Aa (gY l) rfl (Aa (Al ..) rfl (Ax rfl (λhc=>?_) (λ_=>?_)));have hc:(!decide ((l.length:Int)=21))=true:=hc;rw [AD (by omega)]at hc;cases hc;refine Aa (ZY hl) (G_ _) (Aa (A_ l (i:=2) (by omega)) rfl (Aa (Kw l (i:=2) (by omega) ⟨2,7,some 0⟩) (G_ _) (Aa (A_ l (i:=3) (by omega)) rfl (Aa (Kw _ (i:=3) (by omega) ⟨1,1,some 0⟩) (G_ _) (Ea (fM rfl rfl hl (gz h)) ?_)))));exact Ai (by show Ak [c_ _]=true;simp only [Ak,G_]) rfl
def Ha (s:SS) (now:Int):SS:=if s.err=0 then { s with m:=Nn s.im now } else s
def GR (s:SS) (st:AV):AV:=if s.err=0 then .nsl else st
def kR {s:SS} {st:AV} (now:Int) (h:St s.m.st st):St (Ha s now).m.st (GR s st):=by unfold Ha GR;split;exact N5;exact h
def T9 {x st:AV} (s:SS) (now:Int) (hx:okC x=true) (hs:okC st=true):Ak (K_ x (Ha s now) (GR s st))=true:=EV _ hx (by unfold GR;split;rfl;exact hs)
def zf {l:List GI} {x:AV} (hx:SlV k_ 7 l x) (hl:l.length<=1000000) {s:SS} {st:AV} (hs:St s.m.st st) (h:EW s) (hm:Aw s.im) (now:Int):AJ 13 [.agg (K_ x s st),.int .i64 now] (.agg (K_ x (Ha s now) (GR s st))):=by have okx:=hx.ok BM;refine Bx [some 13,none] (K_ x s st++[.int .i64 now]) tW NE rfl (A9.okL_join (EV s okx hs.okC) rfl) (Vu (T9 s now okx hs.okC)) rfl rfl (by kernel_rfl) λY hf hg=>?_;unfold NE;refine Aq (Yf hx hl hs h) rfl (EV s okx hs.okC) (Aa (Am ..) rfl (Ax rfl (λh0=>?_) (λh0=>Ap ?_)));have h0:s.err=0:=dT h0;refine Aq (xU hm now) rfl (by show Ak [c_ s.im,.int .i64 now]=true;simp only [Ak,okC,G_]) (Ap ?_);show AV.agg _=_;unfold Ha GR;rw [Ad h0,Ad h0];rfl;have h0:¬s.err=0:=dF h0;unfold Ha GR;rw [Ab h0,Ab h0];rfl
def rg {x:AV} (okx:okC x=true) {s:SS} {st:AV} (hs:St s.m.st st) (hm:Aw s.im) (now:Int):AJ 14 [.agg (K_ x s st),.int .i64 now] (.agg (K_ x (Ha s now) (GR s st))):=by refine Bx [some 13,none] (K_ x s st++[.int .i64 now]) yb O0 rfl (A9.okL_join (EV s okx hs.okC) rfl) (Vu (T9 s now okx hs.okC)) rfl rfl (by kernel_rfl) λY hf hg=>?_;unfold O0;refine Aa (Am ..) rfl (Ax rfl (λh0=>?_) (λh0=>Ap ?_));have h0:s.err=0:=dT h0;refine Aq (wx hm now) rfl (by show Ak [c_ s.im,.int .i64 now]=true;simp only [Ak,okC,G_]) (Ap ?_);show AV.agg _=_;unfold Ha GR;rw [Ad h0,Ad h0];rfl;have h0:¬s.err=0:=dF h0;unfold Ha GR;rw [Ab h0,Ab h0];rfl
def QD (s:SS):Prop:=s.err=0/\s.m.over=false
def mS (l:List GI) (s:SS):MS:=if s.most<=s.m.used then { s.m with err:=8 } else e_ l s.m
def y_ (l:List GI) (s:SS):SS:=
 if s.err≠0\/s.m.over=true then s
 else if (mS l s).over=true then { s with im:=(mS l s).mem,m:=mS l s,n:=IntKind.i64.wrap (s.n+1) }
 else if (mS l s).err≠0 then { s with im:=Ft s.im,m:=mS l s,err:=(mS l s).err,n:=IntKind.i64.wrap (s.n+1) }
 else { s with m:=mS l s }
def CH (l:List GI) (s:SS):Bool:=if s.err≠0\/s.m.over=true then true else decide ((mS l s).over=true\/(mS l s).err≠0)
structure FM (l:List GI) (T:List (List Int)) (s:SS):Prop where
 im:Aw s.im
 st:s.m.st.length<=1000
 mem:s.m.mem.length<=1000
 now: -9223372036854775808<=s.m.now/\s.m.now<=9223372036854775807
 used:0<=s.m.used/\s.m.used<=100000
 most:s.most<=100000
 mt:s.err=0->s.m.over=false->Gh l T s.m/\s.m.err=0
def dP (x:AV) (s:SS) (due:Bool):Nat->List AV->Prop:=λ_ ws=>∃st,St s.m.st st/\ws=K_ x s st++[.bool due]
def FM.small {l:List GI} {T:List (List Int)} {s:SS} (h:FM l T s):EW s:=⟨by have:=h.im.len;omega,h.st,h.mem⟩
def Hi {x st:AV} (s:SS) (b:Bool) (hx:okC x=true) (hs:okC st=true):Ak (K_ x s st++[.bool b])=true:=A9.okL_join (EV s hx hs) rfl
def WT {l:List GI} {s:SS} (h:s.most<=s.m.used):mS l s={ s.m with err:=8 }:=Ad h
def Yw {l:List GI} {s:SS} (h:¬s.most<=s.m.used):mS l s=e_ l s.m:=Ab h
def yf {l:List GI} {T:List (List Int)} (hG:Av T 0 l) (hl:l.length<=400) (hlen:T.length=l.length) {s:SS} {st:AV} (hs:St s.m.st st) (h:FM l T s):Bl 15 JQ (K_ (h_ l) s st) (dP (h_ l) (y_ l s) (CH l s)):=by
 have okx:okC (h_ l)=true:=okI l;have okv:okC VARS=true:=by kernel_rfl
 have hx:SlV k_ 7 l (h_ l):=SlV.of l;refine B3 VD L4 rfl rfl (by kernel_rfl) λY hf hg=>?_;unfold L4;refine Aq (Yf hx (by omega) hs h.small) rfl (EV s okx hs.okC) (Aa (Al ..) rfl (Ax rfl (λh0=>?_) (λh0=>?_)));have h0:(!decide (s.err=0))=true:=h0;have h0:s.err≠0:=(by simpa using h0);have e1:y_ l s=s:=Ad (.inl h0);have e2:CH l s=true:=Ad (.inl h0);rw [e1,e2];exact Ai (Hi s true okx hs.okC) ⟨st,hs,rfl⟩;have h0:(!decide (s.err=0))=false:=h0;have h0:s.err=0:=by simpa using h0
 refine Ax rfl (λho=>?_) (λho=>?_);have e1:y_ l s=s:=Ad (.inr ho);have e2:CH l s=true:=Ad (.inr ho);rw [e1,e2];exact Ai (Hi s true okx hs.okC) ⟨st,hs,rfl⟩;have ho:s.m.over=false:=ho;have hon:¬(s.err≠0\/s.m.over=true):=by rw [h0,ho];simp
 obtain ⟨hmt,hme⟩:=h.mt h0 ho;have oki:∀l:List FV,Ak [VARS,c_ l]=true:=λl=>by simp only [Ak,okv,G_]
 refine Aa (A8 ..) rfl (Ax rfl (λhu=>?_) (λhu=>?_));have hu:s.most<=s.m.used:=dT hu;have em:=WT (l:=l) hu;refine Ax (t:=false) (by show _=some (AV.bool false);rw [←ho];rfl) (λh=>by cases h) (λ_=>?_);have e1:y_ l s={ s with im:=Ft s.im,m:={ s.m with err:=8 },err:=8,n:=IntKind.i64.wrap (s.n+1) }:=(by unfold y_;rw [Ab hon,em,Ab (by show ¬s.m.over=true;rw [ho];decide),Ad (by show (8:Int)≠0;decide)]);have e2:CH l s=true:=(by unfold CH;rw [Ab hon,em];exact AD (.inr (by show (8:Int)≠0;decide)));rw [e1,e2];refine a_ (jT h.im) rfl (oki _) ⟨?_,trivial⟩;rintro ws rfl;refine Aa (AM ..) rfl (Ai ?_ ⟨st,hs,?_⟩);exact Hi { s with im:=Ft s.im,m:={ s.m with err:=8 },err:=8,n:=IntKind.i64.wrap (s.n+1) } true okx hs.okC;rfl;have hu:¬s.most<=s.m.used:=dF hu;have em:=Yw (l:=l) hu;refine a_ (wd hG h.now hl (by have:=h.used;omega) hmt hs) rfl (oz l hs (r:=[]) rfl) ⟨?_,trivial⟩;rintro ws ⟨st',hs',rfl⟩;refine Ax rfl (λho'=>?_) (λho'=>?_);have ho':(e_ l s.m).over=true:=ho';have e1:y_ l s={ s with im:=(e_ l s.m).mem,m:=e_ l s.m,n:=IntKind.i64.wrap (s.n+1) }:=(by unfold y_;rw [Ab hon,em,Ad ho']);have e2:CH l s=true:=(by unfold CH;rw [Ab hon,em];exact AD (.inl ho'));rw [e1,e2];have hml:=(Gh.small hG (YM hlen hG h.now hmt)).2.len;refine Aq (TM (SlV.of (enc:=f_) (w:=3) (e_ l s.m).mem) (by omega)) rfl (by show Ak [c_ _]=true;simp only [Ak,G_]) (Aa (AM ..) rfl (Ai ?_ ⟨st',hs',?_⟩));exact Hi { s with im:=(e_ l s.m).mem,m:=e_ l s.m,n:=IntKind.i64.wrap (s.n+1) } true okx hs'.okC;rfl;have ho':(e_ l s.m).over=false:=ho';refine Aa (Al ..) rfl (Ax rfl (λhe=>?_) (λhe=>?_));have he:(!decide ((e_ l s.m).err=0))=true:=he;have he:(e_ l s.m).err≠0:=(by simpa using he);have e1:y_ l s={ s with im:=Ft s.im,m:=e_ l s.m,err:=(e_ l s.m).err,n:=IntKind.i64.wrap (s.n+1) }:=(by unfold y_;rw [Ab hon,em,Ab (by rw [ho'];decide),Ad he]);have e2:CH l s=true:=(by unfold CH;rw [Ab hon,em];exact AD (.inr he));rw [e1,e2];refine a_ (jT h.im) rfl (oki _) ⟨?_,trivial⟩;rintro ws rfl;refine Aa (AM ..) rfl (Ai ?_ ⟨st',hs',?_⟩);exact Hi { s with im:=Ft s.im,m:=e_ l s.m,err:=(e_ l s.m).err,n:=IntKind.i64.wrap (s.n+1) } true okx hs'.okC;rfl;have he:(!decide ((e_ l s.m).err=0))=false:=he;have he:(e_ l s.m).err=0:=by simpa using he
 have e1:y_ l s={ s with m:=e_ l s.m }:=by unfold y_;rw [Ab hon,em,Ab (by rw [ho'];decide),Ab (by rw [he];decide)]
 have e2:CH l s=false:=by unfold CH;rw [Ab hon,em];exact A4 (by rw [ho',he];simp)
 rw [e1,e2];exact Ai (Hi { s with m:=e_ l s.m } false okx hs'.okC) ⟨st',hs',rfl⟩
def p16 {l:List GI} {T:List (List Int)} (hG:Av T 0 l) (hl:l.length<=400) (hlen:T.length=l.length) {s:SS} {st:AV} (hs:St s.m.st st) (h:FM l T s):Bl 16 Xb (K_ (h_ l) s st) (dP (h_ l) (y_ l s) (CH l s)):=by
 have okx:okC (h_ l)=true:=okI l;have okv:okC VARS=true:=by kernel_rfl
 refine B3 Ue F3 rfl rfl (by kernel_rfl) λY hf hg=>?_;unfold F3;refine Aa (Al ..) rfl (Ax rfl (λh0=>?_) (λh0=>?_));have h0:(!decide (s.err=0))=true:=h0;have h0:s.err≠0:=(by simpa using h0);have e1:y_ l s=s:=Ad (.inl h0);have e2:CH l s=true:=Ad (.inl h0);rw [e1,e2];exact Ai (Hi s true okx hs.okC) ⟨st,hs,rfl⟩;have h0:(!decide (s.err=0))=false:=h0;have h0:s.err=0:=by simpa using h0
 refine Ax rfl (λho=>?_) (λho=>?_);have e1:y_ l s=s:=Ad (.inr ho);have e2:CH l s=true:=Ad (.inr ho);rw [e1,e2];exact Ai (Hi s true okx hs.okC) ⟨st,hs,rfl⟩;have ho:s.m.over=false:=ho;have hon:¬(s.err≠0\/s.m.over=true):=by rw [h0,ho];simp
 obtain ⟨hmt,hme⟩:=h.mt h0 ho;have oki:∀l:List FV,Ak [VARS,c_ l]=true:=λl=>by simp only [Ak,okv,G_]
 refine Aa (A8 ..) rfl (Ax rfl (λhu=>?_) (λhu=>?_));have hu:s.most<=s.m.used:=dT hu;have em:=WT (l:=l) hu;refine Ax (t:=false) (by show _=some (AV.bool false);rw [←ho];rfl) (λh=>by cases h) (λ_=>?_);have e1:y_ l s={ s with im:=Ft s.im,m:={ s.m with err:=8 },err:=8,n:=IntKind.i64.wrap (s.n+1) }:=(by unfold y_;rw [Ab hon,em,Ab (by show ¬s.m.over=true;rw [ho];decide),Ad (by show (8:Int)≠0;decide)]);have e2:CH l s=true:=(by unfold CH;rw [Ab hon,em];exact AD (.inr (by show (8:Int)≠0;decide)));rw [e1,e2];refine a_ (eR h.im) rfl (oki _) ⟨?_,trivial⟩;rintro ws rfl;refine Aa (AM ..) rfl (Ai ?_ ⟨st,hs,?_⟩);exact Hi { s with im:=Ft s.im,m:={ s.m with err:=8 },err:=8,n:=IntKind.i64.wrap (s.n+1) } true okx hs.okC;rfl;have hu:¬s.most<=s.m.used:=dF hu;have em:=Yw (l:=l) hu;refine a_ (vx hG h.now hl (by have:=h.used;omega) hmt hs) rfl (oz l hs (r:=[]) rfl) ⟨?_,trivial⟩;rintro ws ⟨st',hs',rfl⟩;refine Ax rfl (λho'=>?_) (λho'=>?_);have ho':(e_ l s.m).over=true:=ho';have e1:y_ l s={ s with im:=(e_ l s.m).mem,m:=e_ l s.m,n:=IntKind.i64.wrap (s.n+1) }:=(by unfold y_;rw [Ab hon,em,Ad ho']);have e2:CH l s=true:=(by unfold CH;rw [Ab hon,em];exact AD (.inl ho'));rw [e1,e2];have hml:=(Gh.small hG (YM hlen hG h.now hmt)).2.len;refine Aa (ZY hml) (G_ _) (Aa (AM ..) rfl (Ai ?_ ⟨st',hs',?_⟩));exact Hi { s with im:=(e_ l s.m).mem,m:=e_ l s.m,n:=IntKind.i64.wrap (s.n+1) } true okx hs'.okC;rfl;have ho':(e_ l s.m).over=false:=ho';refine Aa (Al ..) rfl (Ax rfl (λhe=>?_) (λhe=>?_));have he:(!decide ((e_ l s.m).err=0))=true:=he;have he:(e_ l s.m).err≠0:=(by simpa using he);have e1:y_ l s={ s with im:=Ft s.im,m:=e_ l s.m,err:=(e_ l s.m).err,n:=IntKind.i64.wrap (s.n+1) }:=(by unfold y_;rw [Ab hon,em,Ab (by rw [ho'];decide),Ad he]);have e2:CH l s=true:=(by unfold CH;rw [Ab hon,em];exact AD (.inr he));rw [e1,e2];refine a_ (eR h.im) rfl (oki _) ⟨?_,trivial⟩;rintro ws rfl;refine Aa (AM ..) rfl (Ai ?_ ⟨st',hs',?_⟩);exact Hi { s with im:=Ft s.im,m:=e_ l s.m,err:=(e_ l s.m).err,n:=IntKind.i64.wrap (s.n+1) } true okx hs'.okC;rfl;have he:(!decide ((e_ l s.m).err=0))=false:=he;have he:(e_ l s.m).err=0:=by simpa using he
 have e1:y_ l s={ s with m:=e_ l s.m }:=by unfold y_;rw [Ab hon,em,Ab (by rw [ho'];decide),Ab (by rw [he];decide)]
 have e2:CH l s=false:=by unfold CH;rw [Ab hon,em];exact A4 (by rw [ho',he];simp)
 rw [e1,e2];exact Ai (Hi { s with m:=e_ l s.m } false okx hs'.okC) ⟨st',hs',rfl⟩
namespace Beg
abbrev G (l:List (FuncId×List AV×AV)):Gl:=Ns Ni SP l
def o0: @EM (G []) Tryz.prog:=gD Ni SP Tryz.prog
def z4:AV:=.int .i64 1
def z9:AV:=.int .i64 2
def z5:AV:=.int .i64 0
def z6:AV:=.flt .f64 0
def z7:AV:=.int .i64 3
def z8:AV:=.int .i64 5
def z0:AV:=.agg [.vsl 7 10 [.str [97],z4,z9,z5,z9,z5,z6,z5,z5,z6,.str [98],z4,z4,z5,z4,z5,z6,z5,z5,z6,.str [111],z9,z9,z5,z9,z4,z6,z9,.int .i64 9,z6,.str [110],z7,z9,z5,z9,z5,z6,z5,z5,z6,.str [120],z7,z9,z5,z9,z5,z6,z5,z5,z6,.str [114],z7,z8,z5,z8,z5,z6,z5,z5,z6,.str [107],z7,z9,z7,z9,z5,z6,z5,z5,z6],.vsl 4 27 [z4,z9,z9,.str [110],.str [],z7,z5,z5,z5,z6,.nsl,.int .i64 4,z9,.str [],.str [],z5,z5,z5,z5,z6,.vsl 2 10 [z9,z9,.str [110],.str [],z7,z5,z5,z5,z6,.nsl,z4,z9,.str [],.str [],z5,z5,z9,z4,z6,.nsl],.nsl,.nsl,.str [],z5,z5,.nsl,z4,z9,z9,.str [111],.str [],z9,z5,z5,z5,z6,.nsl,.int .i64 4,z9,.str [],.str [],z5,z5,z5,z5,z6,.vsl 2 10 [z9,z9,.str [120],.str [],.int .i64 4,z5,z5,z5,z6,.nsl,z9,z9,.str [97],.str [],z5,z5,z5,z5,z6,.nsl],.nsl,.nsl,.str [],z5,z5,.nsl,z9,z5,z5,.str [],.str [],z5,z5,z5,z5,z6,.nsl,z9,z4,.str [98],.str [],z4,z5,z5,z5,z6,.nsl,.vsl 1 27 [z4,z7,z9,.str [107],.str [],.int .i64 6,z7,z5,z5,z6,.vsl 1 10 [z9,z9,.str [120],.str [],.int .i64 4,z5,z5,z5,z6,.nsl],z9,z9,.str [97],.str [],z5,z5,z5,z5,z6,.nsl,.nsl,.nsl,.str [],z5,z5,.nsl],.nsl,.str [],z5,z5,.nsl,z4,z9,z8,.str [114],.str [],z8,z5,z5,z5,z6,.nsl,.int .i64 4,z8,.str [],.str [],z5,z5,z5,z5,z6,.vsl 2 10 [z9,z8,.str [114],.str [],z8,z5,z5,z5,z6,.nsl,z4,z8,.str [],.str [],z5,z5,z8,z5,.flt .f64 4602678819172646912,.nsl],.nsl,.nsl,.str [],z5,z5,.nsl]]
def z1:AV:=.vsl 18 7 [z9,z5,z7,z5,z5,z5,z6,z4,z9,z5,z5,z9,z4,z6,.int .i64 4,z9,z5,z5,z5,z5,z6,.int .i64 18,z5,z7,z5,z5,z5,z6,z9,z5,.int .i64 4,z5,z5,z5,z6,z9,z5,z5,z5,z5,z5,z6,.int .i64 4,z9,z5,z5,z5,z5,z6,.int .i64 18,z5,z9,z5,z5,z5,z6,z9,z5,z4,z5,z5,z5,z6,.int .i64 21,z5,.int .i64 13,z5,z5,z5,z6,z9,z5,z5,z5,z5,z5,z6,z9,z5,.int .i64 4,z5,z5,z5,z6,.int .i64 19,z5,.int .i64 6,z7,z5,z5,z6,z9,z5,z8,z5,z5,z5,z6,z4,z8,z5,z5,z8,z5,.flt .f64 4602678819172646912,.int .i64 4,z8,z5,z5,z5,z5,z6,.int .i64 18,z5,z8,z5,z5,z5,z6,.int .i64 23,z5,z5,z5,z5,z5,z6]
def z2:AV:=.agg [.vsl 7 10 [.str [97],z4,z9,z5,z9,z5,z6,z5,z5,z6,.str [98],z4,z4,z5,z4,z5,z6,z5,z5,z6,.str [111],z9,z9,z5,z9,z4,z6,z9,.int .i64 9,z6,.str [110],z7,z9,z5,z9,z5,z6,z5,z5,z6,.str [120],z7,z9,z5,z9,z5,z6,z5,z5,z6,.str [114],z7,z8,z5,z8,z5,z6,z5,z5,z6,.str [107],z7,z9,z7,z9,z5,z6,z5,z5,z6],.vsl 4 27 [z4,z9,z5,.str [110],.str [],z5,z5,z5,z5,z6,.nsl,.int .i64 4,z5,.str [],.str [],z5,z5,z5,z5,z6,.vsl 2 10 [z9,z5,.str [110],.str [],z5,z5,z5,z5,z6,.nsl,z4,z5,.str [],.str [],z5,z5,z7,z4,z6,.nsl],.nsl,.nsl,.str [],z5,z5,.nsl,z4,z9,z5,.str [111],.str [],z5,z5,z5,z5,z6,.nsl,.int .i64 4,z5,.str [],.str [],z5,z5,z5,z5,z6,.vsl 2 10 [z9,z5,.str [120],.str [],z5,z5,z5,z5,z6,.nsl,z9,z5,.str [97],.str [],z5,z5,z5,z5,z6,.nsl],.nsl,.nsl,.str [],z5,z5,.nsl,z9,z5,z5,.str [],.str [],z5,z5,z5,z5,z6,.nsl,z9,z5,.str [98],.str [],z5,z5,z5,z5,z6,.nsl,.vsl 1 27 [z4,z7,z5,.str [107],.str [],z5,z5,z5,z5,z6,.vsl 1 10 [z9,z5,.str [120],.str [],z5,z5,z5,z5,z6,.nsl],z9,z5,.str [97],.str [],z5,z5,z5,z5,z6,.nsl,.nsl,.nsl,.str [],z5,z5,.nsl],.nsl,.str [],z5,z5,.nsl,z4,z9,z5,.str [114],.str [],z5,z5,z5,z5,z6,.nsl,.int .i64 4,z5,.str [],.str [],z5,z5,z5,z5,z6,.vsl 2 10 [z9,z5,.str [114],.str [],z5,z5,z5,z5,z6,.nsl,z4,z5,.str [],.str [],z5,z5,z8,z5,.flt .f64 4602678819172646912,.nsl],.nsl,.nsl,.str [],z5,z5,.nsl]]
def z3:AV:=.str [105,110,32,97,32,58,32,105,110,116,59,32,105,110,32,98,32,58,32,98,111,111,108,59,32,111,117,116,32,111,32,58,32,105,110,116,32,58,61,32,49,44,32,57,59,32,118,97,114,32,110,32,58,32,105,110,116,59,32,118,97,114,32,120,32,58,32,105,110,116,59,32,118,97,114,32,114,32,58,32,114,101,97,108,59,32,118,97,114,32,107,32,58,32,105,110,116,91,51,93,59,32,110,32,58,61,32,110,32,43,32,49,59,32,111,32,58,61,32,120,32,43,32,97,59,32,105,102,32,98,32,116,104,101,110,32,107,91,120,93,32,58,61,32,97,59,32,101,110,100,32,114,32,58,61,32,114,32,43,32,48,46,53,59]
def a0:List AV:=[]
def v0:AV:=z3
theorem e0: @IP (G []) Tryz.prog 3000 53 a0 v0=true:=by kernel_rfl
def l1:List (FuncId×List AV×AV):=(53,a0,v0)::[]
def o1: @EM (G l1) Tryz.prog:=Mt o0 (@B7 (G []) Tryz.prog mo o0 3000 53 a0 v0 e0)
def a1:List AV:=[z3]
def v1:AV:=.tup [.vsl 71 5 [z4,.str [105,110],z5,z6,z5,z4,.str [97],z5,z6,z7,z8,.str [58],z5,z6,z8,z4,.str [105,110,116],z5,z6,.int .i64 7,z8,.str [59],z5,z6,.int .i64 10,z4,.str [105,110],z5,z6,.int .i64 12,z4,.str [98],z5,z6,.int .i64 15,z8,.str [58],z5,z6,.int .i64 17,z4,.str [98,111,111,108],z5,z6,.int .i64 19,z8,.str [59],z5,z6,.int .i64 23,z4,.str [111,117,116],z5,z6,.int .i64 25,z4,.str [111],z5,z6,.int .i64 29,z8,.str [58],z5,z6,.int .i64 31,z4,.str [105,110,116],z5,z6,.int .i64 33,z8,.str [58,61],z5,z6,.int .i64 37,z9,.str [],z4,z6,.int .i64 40,z8,.str [44],z5,z6,.int .i64 41,z9,.str [],.int .i64 9,z6,.int .i64 43,z8,.str [59],z5,z6,.int .i64 44,z4,.str [118,97,114],z5,z6,.int .i64 46,z4,.str [110],z5,z6,.int .i64 50,z8,.str [58],z5,z6,.int .i64 52,z4,.str [105,110,116],z5,z6,.int .i64 54,z8,.str [59],z5,z6,.int .i64 57,z4,.str [118,97,114],z5,z6,.int .i64 59,z4,.str [120],z5,z6,.int .i64 63,z8,.str [58],z5,z6,.int .i64 65,z4,.str [105,110,116],z5,z6,.int .i64 67,z8,.str [59],z5,z6,.int .i64 70,z4,.str [118,97,114],z5,z6,.int .i64 72,z4,.str [114],z5,z6,.int .i64 76,z8,.str [58],z5,z6,.int .i64 78,z4,.str [114,101,97,108],z5,z6,.int .i64 80,z8,.str [59],z5,z6,.int .i64 84,z4,.str [118,97,114],z5,z6,.int .i64 86,z4,.str [107],z5,z6,.int .i64 90,z8,.str [58],z5,z6,.int .i64 92,z4,.str [105,110,116],z5,z6,.int .i64 94,z8,.str [91],z5,z6,.int .i64 97,z9,.str [],z7,z6,.int .i64 98,z8,.str [93],z5,z6,.int .i64 99,z8,.str [59],z5,z6,.int .i64 100,z4,.str [110],z5,z6,.int .i64 102,z8,.str [58,61],z5,z6,.int .i64 104,z4,.str [110],z5,z6,.int .i64 107,z8,.str [43],z5,z6,.int .i64 109,z9,.str [],z4,z6,.int .i64 111,z8,.str [59],z5,z6,.int .i64 112,z4,.str [111],z5,z6,.int .i64 114,z8,.str [58,61],z5,z6,.int .i64 116,z4,.str [120],z5,z6,.int .i64 119,z8,.str [43],z5,z6,.int .i64 121,z4,.str [97],z5,z6,.int .i64 123,z8,.str [59],z5,z6,.int .i64 124,z4,.str [105,102],z5,z6,.int .i64 126,z4,.str [98],z5,z6,.int .i64 129,z4,.str [116,104,101,110],z5,z6,.int .i64 131,z4,.str [107],z5,z6,.int .i64 136,z8,.str [91],z5,z6,.int .i64 137,z4,.str [120],z5,z6,.int .i64 138,z8,.str [93],z5,z6,.int .i64 139,z8,.str [58,61],z5,z6,.int .i64 141,z4,.str [97],z5,z6,.int .i64 144,z8,.str [59],z5,z6,.int .i64 145,z4,.str [101,110,100],z5,z6,.int .i64 147,z4,.str [114],z5,z6,.int .i64 151,z8,.str [58,61],z5,z6,.int .i64 153,z4,.str [114],z5,z6,.int .i64 156,z8,.str [43],z5,z6,.int .i64 158,z7,.str [],z5,.flt .f64 4602678819172646912,.int .i64 160,z8,.str [59],z5,z6,.int .i64 163],z5,.bool true]
theorem e1: @IP (G l1) Tryz.prog 3000 91 a1 v1=true:=by kernel_rfl
def l2:List (FuncId×List AV×AV):=(91,a1,v1)::l1
def o2: @EM (G l2) Tryz.prog:=Mt o1 (@B7 (G l1) Tryz.prog mo o1 3000 91 a1 v1 e1)
def a2:List AV:=[z3]
def v2:AV:=.tup [z2,z5,.bool true]
theorem e2: @IP (G l2) Tryz.prog 3000 52 a2 v2=true:=by kernel_rfl
def l3:List (FuncId×List AV×AV):=(52,a2,v2)::l2
def o3: @EM (G l3) Tryz.prog:=Mt o2 (@B7 (G l2) Tryz.prog mo o2 3000 52 a2 v2 e2)
def a3:List AV:=[z2]
def v3:AV:=.tup [z0,z5]
theorem e3: @IP (G l3) Tryz.prog 3000 23 a3 v3=true:=by kernel_rfl
def l4:List (FuncId×List AV×AV):=(23,a3,v3)::l3
def o4: @EM (G l4) Tryz.prog:=Mt o3 (@B7 (G l3) Tryz.prog mo o3 3000 23 a3 v3 e3)
def a4:List AV:=[z0]
def v4:AV:=.tup [z1,z5]
theorem e4: @IP (G l4) Tryz.prog 3000 9 a4 v4=true:=by kernel_rfl
def l5:List (FuncId×List AV×AV):=(9,a4,v4)::l4
def o5: @EM (G l5) Tryz.prog:=Mt o4 (@B7 (G l4) Tryz.prog mo o4 3000 9 a4 v4 e4)
def a5:List AV:=[]
def v5:AV:=.tup [z0,z1]
theorem e5: @IP (G l5) Tryz.prog 3000 22 a5 v5=true:=by kernel_rfl
def l6:List (FuncId×List AV×AV):=(22,a5,v5)::l5
def o6: @EM (G l6) Tryz.prog:=Mt o5 (@B7 (G l5) Tryz.prog mo o5 3000 22 a5 v5 e5)
def a6:List AV:=[z0,z1,.int .i64 100]
def v6:AV:=.tup [.agg [.vsl 7 10 [.str [97],z4,z9,z5,z9,z5,z6,z5,z5,z6,.str [98],z4,z4,z5,z4,z5,z6,z5,z5,z6,.str [111],z9,z9,z5,z9,z4,z6,z9,.int .i64 9,z6,.str [110],z7,z9,z5,z9,z5,z6,z5,z5,z6,.str [120],z7,z9,z5,z9,z5,z6,z5,z5,z6,.str [114],z7,z8,z5,z8,z5,z6,z5,z5,z6,.str [107],z7,z9,z7,z9,z5,z6,z5,z5,z6],z1,.int .i64 100,.vsl 9 3 [z9,z5,z6,z4,z5,z6,z9,z4,z6,z9,z5,z6,z9,z5,z6,z8,z5,z6,z9,z5,z6,z9,z5,z6,z9,z5,z6],z5,.nsl,.nsl,z5,z5,.bool true,z5,z5,z5],z5]
theorem e6: @IP (G l6) Tryz.prog 3000 10 a6 v6=true:=by kernel_rfl
def l7:List (FuncId×List AV×AV):=(10,a6,v6)::l6
def o7: @EM (G l7) Tryz.prog:=Mt o6 (@B7 (G l6) Tryz.prog mo o6 3000 10 a6 v6 e6)
theorem eb: @IP (G l7) Tryz.prog 3000 7 [] (.bool true)=true:=by kernel_rfl
end Beg
def k7:AJ 7 [] (.bool true):= @B7 (Beg.G Beg.l7) Tryz.prog mo Beg.o7 3000 7 [] (.bool true) Beg.eb
end Go.Proofs.YtelnbodnjmldeaaGreat.vars
