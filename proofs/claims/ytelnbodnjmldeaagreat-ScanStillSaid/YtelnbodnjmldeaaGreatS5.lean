/-
  Why instructions may not be: the program's word.
-/
import Derived.Test.YtelnbodnjmldeaaGreatYK
import Derived.Test.YtelnbodnjmldeaaGreatFA
import Derived.Test.YtelnbodnjmldeaaGreatWI
import Derived.Test.YtelnbodnjmldeaaGreatXB
import Derived.KernelRfl
set_option maxRecDepth 100000
set_option linter.unusedVariables false
set_option linter.unusedSimpArgs false
open Nat renaming zero_le→za'
open Int renaming natCast_nonneg→zb',toNat_of_nonneg→ze'
open List renaming mem_cons_self→zc',mem_cons_of_mem→zd'
namespace Go.Proofs.YtelnbodnjmldeaaGreat.vars
open Go Go.Sx
def FormA (l:List GI):Prop:=0<l.length/\l.length<=400/\(∀g∈l,g.May)/\∀h:l.length-1<l.length,l[l.length-1].op=23
theorem FormA.form {l:List GI} {cells:Int} (h:FormA l) (hp:∀g∈l,g.Plc l.length cells):Form l cells:=⟨h.1,h.2.1,h.2.2.1,h.2.2.2,hp⟩
structure VerI (l:List GI) (cells e:Int):Prop where
 a:¬FormA l->e=2
 b:FormA l->(¬∀g∈l,g.Plc l.length cells)->e=6
 c:Form l cells->(n_ l).Full->e=12
 d:Form l cells->¬(n_ l).Full->(n_ l).Two->e=4
 f:Form l cells->¬(n_ l).Full->¬(n_ l).Two->e=0
theorem Form.a {l:List GI} {cells:Int} (h:Form l cells):FormA l:=⟨h.n1,h.n4,h.may,h.last⟩
theorem CM_ (x:GI) (r:List AV):(XOp.faddr 68 0).run Tryz.prog [.vptr (l_ x++r)]=some (.vptr (.int .i64 x.op::([.int .i64 x.kd,.int .i64 x.ad,.int .i64 x.n,.int .i64 x.vk,.int .i64 x.vi,.flt .f64 x.vf]++r))):=by kernel_rfl
theorem Ef_ (a:List AV) (ha:okL a=true) (l:List GI):okL (a++bi_ l_ l)=true:=kY_.okL_join ha (kY_ okG l)
theorem DL_ {l:List GI} {i:Nat} (h:i<l.length):bi_ l_ (l.drop i)=l_ l[i]++bi_ l_ (l.drop (i+1)):=by rw [List.drop_eq_getElem_cons h];rfl
theorem iaJ {l:List GI} {x:AV} (hx:SlV l_ 7 l x) {i:Nat} (h:i<l.length):(XOp.iaddr 30).run Tryz.prog [x,.int .i64 (i:Int)]=some (.vptr (l_ l[i]++bi_ l_ (l.drop (i+1)))):=by rw [←DL_ h];exact iaI hx h
theorem okJ (g:GI) (l:List GI):okC (.vptr (l_ g++bi_ l_ l))=true:=Ef_ _ (okG g) l
theorem GN_ (x:Int) (r:List AV):(XOp.load 3).run Tryz.prog [.vptr (.int .i64 x::r)]=some (.int .i64 x):=s9_ Tryz.underlying3 rfl _ _
theorem dTi {p:Prop} {i:Decidable p} (h: @decide p i=true):p:= @of_decide_eq_true p i h
theorem dFi {p:Prop} {i:Decidable p} (h: @decide p i=false):¬p:= @of_decide_eq_false p i h
theorem p30 {l:List GI} {x:AV} (hx:SlV l_ 7 l x) (hl:l.length<=1000000) {cells e:Int} (hv:VerI l cells e):jD_ Tryz.prog 30 [x,.int .i64 cells] (.int .i64 e):=by
 have okx:=hx.ok okG;refine uk_ (sh:=[none,none]) (ls:=[x,.int .i64 cells]) (c:=c30) (n:=300) (t:=t30) mo ov (by rcases hx with rfl|⟨_,rfl⟩<;>rfl) (by simp only [okL,okC,okx]) rfl (λY _=>vX_ _) rfl (by kernel_rfl) λY hf hg'=>?_;unfold t30;refine VOK_lt (xZ_ hx) rfl (VOK_lt (run_eql ..) rfl (vz_ rfl (λh0=>uX_ (iK (hv.a ?_)).symm) (λh0=>?_)));rintro ⟨h1,_⟩;have h0:(l.length:Int)=0:=dT h0;omega;have h0:¬(l.length:Int)=0:=dF h0;refine VOK_lt (xZ_ hx) rfl (VOK_lt (run_gtr ..) rfl (vz_ rfl (λh4=>uX_ (iK (hv.a ?_)).symm) (λh4=>?_)));rintro ⟨_,h1,_⟩;have h4:(400:Int)<(l.length:Int):=dT h4;omega;have h4:¬(400:Int)<(l.length:Int):=dF h4;refine uW_ (C1 hx hl) rfl (by simp only [okL,okC,L_,okx]) (vz_ rfl (λhm=>uX_ (iK (hv.a ?_)).symm) (λhm=>?_));rintro ⟨_,_,h1,_⟩;exact dT hm h1;have hm:∀g∈l,g.May:=Classical.not_not.1 (dF hm);have hl1:l.length-1<l.length:=by omega
 have em:IntKind.i64.wrap ((l.length:Int)-1)=((l.length-1:Nat):Int):=by rw [v6_ (by omega) (by omega)];omega
 refine VOK_lt (xZ_ hx) rfl (VOK_lt (r:=.int .i64 ((l.length-1:Nat):Int)) (by rw [←em];exact run_sub ..) rfl (VOK_lt (iaJ hx hl1) (okJ _ _) (VOK_lt (CM_ ..) (Ef_ _ rfl _) (VOK_lt (GN_ ..) rfl (VOK_lt (run_neq ..) rfl (vz_ rfl (λh23=>uX_ (iK (hv.a ?_)).symm) (λh23=>?_)))))));rintro ⟨_,_,_,h1⟩;have h23:(!decide (l[l.length-1].op=23))=true:=h23;rw [h1 hl1]at h23;cases h23;have h23:(!decide (l[l.length-1].op=23))=false:=h23;have hA:FormA l:=⟨by omega,by omega,hm,λ_=>by simpa using h23⟩;refine uW_ (C2 hx hl hm cells) rfl (by simp only [okL,okC,L_,okx]) (vz_ rfl (λhp=>uX_ (iK (hv.b hA (dT hp))).symm) (λhp=>?_));have hp:∀g∈l,g.Plc l.length cells:=Classical.not_not.1 (dF hp);have hF:=hA.form hp;refine uW_ (p66 hF hx) rfl (by simp only [okL,okC,okx]) (vz_ rfl (λh1=>uX_ (iK (hv.c hF (dTi h1))).symm) (λh1=>vz_ rfl (λh2=>uX_ (iK (hv.d hF (dFi h1) (dTi h2))).symm) (λh2=>uX_ (iK (hv.f hF (dFi h1) (dFi h2))).symm)))
def Cd (l:List GI) (p:Nat) (c:List GI):Prop:=∃a b,l=a++(c++b)/\a.length=p
section
variable {l:List GI}
theorem Cd.at {p:Nat} {i:GI} {r:List GI} (h:Cd l p (i::r)):l[p]? =some i:=by obtain ⟨a,b,rfl,rfl⟩:=h;simp
def Rn (p:Nat) (st mem:List FV) (us now:Int):MS:=⟨(p:Int),st,mem,us,now,false,0⟩
end
def c68:VC:=⟨⟨[],[]⟩,[],[],0,true,[]⟩
def t68:VT:=It (.bin .eql 30 false true) [64,.nsl] 65 (.done (.nsl))<|Li Qs [.vsl 0 7 [],64] 66<|.done (66)
def Go_:VC:=⟨⟨[],[]⟩,[],[],0,true,[]⟩
def Fe_:VT:=It Zj [64,.nsl] 65 (.done (.nsl))<|Li Qe [.vsl 0 3 [],64] 66<|.done (66)
def c31:VC:=⟨⟨[],[]⟩,[(67,[none]),(68,[none]),(42,[none])],[],0,true,[]⟩
def t31:VT:=.call 67 [64] 77 [none]<|.call 68 [65] 78 [none]<|.call 42 [67] 79 [none]<|.call 42 [69] 80 [none]<|.call 42 [70] 81 [none]<|.done (.agg [77,78,66,79,68,80,81,71,72,73,74,75,76])
def c10:VC:=⟨⟨[],[]⟩,[(28,[none]),(29,[none,none]),(30,[none]),(32,[none]),(31,[(some 13)])],[],0,true,[]⟩
def t10:VT:=.call 28 [64] 68 [none]<|It Q7 [68,J 0] 69 (.done (.tup [.agg [.nsl,.nsl,J 0,.nsl,J 0,.nsl,.nsl,J 0,J 0,.bool false,J 0,J 0,J 0],J 1]))<|It Qa [67,J 1] 70 (.done (.tup [.agg [.nsl,.nsl,J 0,.nsl,J 0,.nsl,.nsl,J 0,J 0,.bool false,J 0,J 0,J 0],J 1]))<|It Qb [67,J 100000] 71 (.done (.tup [.agg [.nsl,.nsl,J 0,.nsl,J 0,.nsl,.nsl,J 0,J 0,.bool false,J 0,J 0,J 0],J 1]))<|.call 29 [64] 72 [none,none]<|.call 30 [66,73] 74 [none]<|It Q7 [74,J 0] 75 (.done (.tup [.agg [.nsl,.nsl,J 0,.nsl,J 0,.nsl,.nsl,J 0,J 0,.bool false,J 0,J 0,J 0],74]))<|.call 32 [64] 76 [none]<|.call 31 [.agg [64,66,67,76,J 0,.nsl,.nsl,J 0,J 0,.bool true,J 0,J 0,J 0]] 77 [(some 13)]<|.done (.tup [.agg [77,78,79,80,81,82,83,84,85,86,87,88,89],J 0])
def c37:VC:=⟨⟨[],[]⟩,[(80,[none])],[(0,[⟨[(5,.slx 0 0 0),(1,65),(0,64)],[],0,1,[],[],[]⟩])],0,true,[]⟩
def t37:VT:=Li Qi [64] 66<|Li Qi [65] 67<|It Qd [66,67] 68 (.done (.bool false))<|.loop 69 0 [J 0] (.cons 1 (Li Qi [64] 70<|It Q5 [69,70] 71 (Li Qk [64,69] 72<|.lt Qy [72] 73 (some 7)<|Li Qk [65,69] 80<|.lt Qy [80] 81 (some 7)<|.call 80 [.agg [73,74,75,76,77,78,79],.agg [81,82,83,84,85,86,87]] 88 [none]<|It Q6 [88] 89 (.done (.bool false))<|Li Q3 [69,J 1] 90<|.again 0 0 [90])<|.done (.bool true)) .nil)
def c80:VC:=⟨⟨[],[]⟩,[(48,[none])],[],0,true,[]⟩
def t80:VT:=It Q9 [64,71] 78 (It Q9 [65,72] 79 (It Q9 [66,73] 80 (It Q9 [67,74] 81 (.call 48 [.agg [68,69,70],.agg [75,76,77]] 82 [none]<|.done (82))<|.done (.bool false))<|.done (.bool false))<|.done (.bool false))<|.done (.bool false)
def c12:VC:=⟨⟨[],[]⟩,[(36,[none]),(37,[none]),(19,[none]),(38,[none])],[],0,true,[]⟩
def t12:VT:=.call 36 [64,77] 90 [none]<|.ite 90 (.call 37 [65,78] 91 [none]<|.ite 91 (It Q9 [66,79] 92 (.call 19 [67,80] 93 [none]<|.ite 93 (.call 38 [.agg [68,69,70,71,72,73,74],.agg [81,82,83,84,85,86,87]] 94 [none]<|.ite 94 (It Zv [75,88] 95 (Li Q9 [76,89] 96<|.done (96))<|.done (.bool false))<|.done (.bool false))<|.done (.bool false))<|.done (.bool false))<|.done (.bool false))<|.done (.bool false)
def m0:List FV:=[⟨2,0,some 0⟩,⟨1,0,some 0⟩,⟨2,0,some 0⟩,⟨1,0,some 0⟩,⟨2,5,some 0⟩,⟨3,0,some 0⟩,⟨5,0,some 0⟩,⟨4,0,some 0⟩,⟨2,0,some 0⟩,⟨2,0,some 0⟩,⟨2,0,some 0⟩,⟨2,0,some 0⟩,⟨1,0,some 0⟩,⟨4,0,some 0⟩,⟨1,0,some 0⟩,⟨4,0,some 0⟩,⟨1,0,some 0⟩,⟨2,0,some 0⟩,⟨1,0,some 0⟩,⟨1,0,some 0⟩,⟨1,0,some 0⟩]
theorem k28:jD_ Tryz.prog 28 [VARS] (.int .i64 0):=vF_ mo ov (n:=3000) (by kernel_rfl)
theorem k29:jD_ Tryz.prog 29 [VARS] (.tup [.vsl 12 1 [.int .i64 0,.int .i64 1,.int .i64 2,.int .i64 3,.int .i64 4,.int .i64 5,.int .i64 6,.int .i64 7,.int .i64 8,.int .i64 12,.int .i64 16,.int .i64 19],.int .i64 21]):=vF_ mo ov (n:=3000) (by kernel_rfl)
theorem k32:jD_ Tryz.prog 32 [VARS] (e_ m0):=vF_ mo ov (n:=3000) (by kernel_rfl)
theorem k36:jD_ Tryz.prog 36 [VARS,VARS] (.bool true):=vF_ mo ov (n:=3000) (by kernel_rfl)
theorem GM_:jD_ Tryz.prog 67 [VARS] VARS:=vF_ mo ov (n:=3000) (by kernel_rfl)
theorem wp_ {cs:List AV} (h:okL cs=true):aX_ (.agg cs)=true:=ku_ (a:=.agg cs) h
theorem yT_ {cs:List AV} {b:AV} (h:okL cs=true) (hb:okC b=true):aX_ (.tup [.agg cs,b])=true:=by have h1:=wp_ h;have h2:=qc_ hb;simp only [aX_,cG_,h1,h2];simp_all [aX_]
theorem Cz_ {α:Type} {enc:α->List AV} {w b:Nat} (hw:∀a,(enc a).length=w) (hwp:0<w) (hb:0<b) {l:List α} {x:AV} (h:SlV enc w l x) (hl:l.length*b<=1073741824):(XOp.app w b).run Tryz.prog [.vsl 0 w [],x]=some (dX_ enc w l):=by
 have ha:bc_ w x=some (l.length,bi_ enc l):=by rcases h with rfl|⟨rfl,rfl⟩;have hl:(bi_ enc l).length=l.length*w:=a5_ hw l;show (match aj_ ⟨hnil,0,0⟩ (.vsl l.length w (bi_ enc l)) l.length w with|some c=>some (l.length,c)|none=>none)=_;have:aj_ ⟨hnil,0,0⟩ (.vsl l.length w (bi_ enc l)) l.length w=some (bi_ enc l):=(by show aZ_ (Nat.mul l.length w) _=_;have h:=dv_ (bi_ enc l) [];rw [List.append_nil,hl]at h;exact h);rw [this];rfl
 show (match bc_ w x with|some (n,l')=>fE_ w b (.vsl 0 w []) n l'|none=>none)=_;rw [ha];show fE_ w b (.vsl 0 w []) l.length (bi_ enc l)=_;have h1:(bi_ enc l).length=l.length*w:=a5_ hw l;have hl1:l.length<=1073741824:=Nat.le_trans (Nat.le_mul_of_pos_right _ hb) hl;unfold fE_;simp only [h1,decide_true,List.length_nil,Nat.zero_mul,and_self];cases l with
 |nil=>rfl
 |cons c r=>have c1:(Nat.ble (Nat.mul (Nat.add 0 (r.length+1)) b) 1073741824&&Nat.ble (Nat.add 0 (r.length+1)) 1073741824&&Nat.blt 0 b)=true:=(by have e:Nat.mul (Nat.add 0 (r.length+1)) b=(r.length+1)*b:=(by show (0+(r.length+1))*b=_;rw [Nat.zero_add]);have e2:Nat.add 0 (r.length+1)=r.length+1:=Nat.zero_add _;have e3:Nat.blt 0 b=true:=(by rw [Nat.blt_eq];exact hb);rw [e,e2,e3,Nat.ble_eq_true_of_le (show (r.length+1)*b<=1073741824 from hl),Nat.ble_eq_true_of_le (show r.length+1<=1073741824 from hl1)];rfl);simp only [List.length_cons,c1];show some (AV.vsl (Nat.add 0 (r.length+1)) w ([]++bi_ enc (c::r)))=_;rw [show Nat.add 0 (r.length+1)=r.length+1 from Nat.zero_add _,List.nil_append];rfl
theorem p68 {l:List GI} {x:AV} (h:SlV l_ 7 l x) (hl:l.length<=1000000):jD_ Tryz.prog 68 [x] x:=by have hx:=h.ok okG;refine uk_ (sh:=[none]) (ls:=[x]) (c:=c68) (n:=300) (t:=t68) mo ov (by rcases h with rfl|⟨_,rfl⟩<;>rfl) (by simp only [okL,hx]) (qc_ hx) (λY _=>vX_ _) rfl (by kernel_rfl) λY hf hg=>?_;unfold t68;rcases h with rfl|⟨_,rfl⟩;refine VOK_lt (r:=.bool false) (by kernel_rfl) rfl (vz_ (t:=false) rfl (λh=>by cases h) (λ_=>?_));exact VOK_lt (Cz_ xY_ (by decide) (by decide) (SlV.v (enc:=l_) (w:=7) l) (by omega)) (sl_ okG _) (uX_ rfl);exact VOK_lt (r:=.bool true) (by kernel_rfl) rfl (vz_ (t:=true) rfl (λ_=>uX_ rfl) (λh=>by cases h))
theorem BL_ {l:List FV} {x:AV} (h:St l x) (hl:l.length<=1000000):jD_ Tryz.prog 42 [x] x:=by have hx:=h.okC;refine uk_ (sh:=[none]) (ls:=[x]) (c:=Go_) (n:=300) (t:=Fe_) mo ov (by rcases h with rfl|⟨_,rfl⟩<;>rfl) (by simp only [okL,hx]) (qc_ hx) (λY _=>vX_ _) rfl (by kernel_rfl) λY hf hg=>?_;unfold Fe_;rcases h with rfl|⟨_,rfl⟩;refine VOK_lt (r:=.bool false) (by kernel_rfl) rfl (vz_ (t:=false) rfl (λh=>by cases h) (λ_=>?_));exact VOK_lt (Cz_ wt_ (by decide) (by decide) (SlV.v (enc:=m_) (w:=3) l) (by omega)) (sl_ okV _) (uX_ rfl);exact VOK_lt (r:=.bool true) (by kernel_rfl) rfl (vz_ (t:=true) rfl (λ_=>uX_ rfl) (λh=>by cases h))
structure SS where
 most:Int
 im:List FV
 m:MS
 err:Int
 n:Int
def u7_ (x:AV) (s:SS) (st:AV):List AV:=VARS::x::.int .i64 s.most::e_ s.im::(KR s.m st++[.int .i64 s.err,.int .i64 s.n])
theorem okT {x st:AV} (s:SS) (hx:okC x=true) (hs:okC st=true):okL (u7_ x s st)=true:=by
 have hv:okC VARS=true:=by kernel_rfl
 simp only [u7_,KR,List.cons_append,List.nil_append,okL,okC,hv,hx,hs,qt_]
structure Small (s:SS):Prop where
 im:s.im.length<=1000
 st:s.m.st.length<=1000
 mem:s.m.mem.length<=1000
theorem p31 {l:List GI} {x:AV} (hx:SlV l_ 7 l x) (hl:l.length<=1000000) {s:SS} {st:AV} (hs:St s.m.st st) (h:Small s):jD_ Tryz.prog 31 [.agg (u7_ x s st)] (.agg (u7_ x s st)):=by have okx:=hx.ok okG;have oks:=hs.okC;refine uk_ (sh:=[some 13]) (ls:=u7_ x s st) (c:=c31) (n:=300) (t:=t31) mo ov rfl (okT s okx oks) (by have:=okT s okx oks;exact wp_ this) (λY _=>vX_ _) rfl (by kernel_rfl) λY hf hg=>?_;unfold t31;refine uW_ GM_ rfl (by kernel_rfl) (uW_ (p68 hx hl) rfl (by show okL [x]=true;simp only [okL,okx]) (uW_ (BL_ (SlV.of (enc:=m_) (w:=3) s.im) (by have:=h.im;omega)) rfl (by show okL [e_ s.im]=true;simp only [okL,qt_]) (uW_ (BL_ hs (by have:=h.st;omega)) rfl (by show okL [st]=true;simp only [okL,oks]) (uW_ (BL_ (SlV.of (enc:=m_) (w:=3) s.m.mem) (by have:=h.mem;omega)) rfl (by show okL [e_ s.m.mem]=true;simp only [okL,qt_]) (uX_ rfl)))))
def Ft_:List AV:=[.nsl,.nsl,.int .i64 0,.nsl,.int .i64 0,.nsl,.nsl,.int .i64 0,.int .i64 0,.bool false,.int .i64 0,.int .i64 0,.int .i64 0]
def s0 (n:Int):SS:=⟨n,m0,⟨0,[],[],0,0,true,0⟩,0,0⟩
theorem AU_ (n:Int):Small (s0 n):=⟨by show m0.length<=1000;decide,za' _,za' _⟩
def zH_ (e n:Int):Int:=if n<1\/100000<n then 1 else e
def AD_ (x:AV) (n e:Int):List AV:=if e=0 then u7_ x (s0 n) .nsl else Ft_
theorem x3_:St [] .nsl:=.inr ⟨rfl,rfl⟩
theorem Ea_ {x:AV} (hx:okC x=true) (n e:Int):okL (AD_ x n e)=true:=by unfold AD_;split;exact okT _ hx rfl;rfl
theorem p10 {l:List GI} {x:AV} (hx:SlV l_ 7 l x) (hl:l.length<=1000000) {b:AV} (hb:okC b=true) (n:Int) {e:Int} (hv:VerI l 21 e):jD_ Tryz.prog 10 [.agg [VARS,b],x,.int .i64 n] (.tup [.agg (AD_ x n (zH_ e n)),.int .i64 (zH_ e n)]):=by
 have okx:=hx.ok okG;have okv:okC VARS=true:=by kernel_rfl
 refine uk_ (sh:=[some 2,none,none]) (ls:=[VARS,b,x,.int .i64 n]) (c:=c10) (n:=300) (t:=t10) mo ov (by rcases hx with rfl|⟨_,rfl⟩<;>rfl) (by simp only [okL,okC,okv,okx,hb]) (yT_ (Ea_ okx n _) rfl) (λY _=>vX_ _) rfl (by kernel_rfl) λY hf hg=>?_;unfold t10;refine uW_ k28 rfl rfl (VOK_lt (run_neq ..) rfl (vz_ (t:=false) rfl (λh=>by cases h) (λ_=>?_)));refine VOK_lt (run_lss ..) rfl (vz_ rfl (λh1=>uX_ ?_) (λh1=>?_));have h1:n<1:=dT h1;rw [show zH_ e n=1 from if_pos (.inl h1)];rfl;have h1:¬n<1:=dF h1;refine VOK_lt (run_gtr ..) rfl (vz_ rfl (λh2=>uX_ ?_) (λh2=>?_));have h2:100000<n:=dT h2;rw [show zH_ e n=1 from if_pos (.inr h2)];rfl;have h2:¬100000<n:=dF h2;have he:zH_ e n=e:=if_neg (by omega);rw [he];refine uW_ k29 rfl rfl (uW_ (p30 hx hl hv) rfl rfl (VOK_lt (run_neq ..) rfl (vz_ rfl (λh0=>uX_ ?_) (λh0=>?_))));have h0:(!decide (e=0))=true:=h0;have h0:¬e=0:=(by simpa using h0);unfold AD_;rw [if_neg h0];rfl;have h0:(!decide (e=0))=false:=h0;have h0:e=0:=by simpa using h0
 subst h0;refine uW_ k32 rfl (by show okL [e_ m0]=true;simp only [okL,qt_]) (uW_ (p31 hx hl (s:=s0 n) x3_ (AU_ n)) rfl (okT _ okx rfl) (uX_ rfl))
theorem Hk_ (f:Nat):jD_ Tryz.prog 89 [.flt .f64 f,.flt .f64 f] (.bool true):=by refine uk_ (sh:=[none,none]) (ls:=[.flt .f64 f,.flt .f64 f]) (c:=c89) (n:=300) (t:=t89) mo ov rfl rfl rfl (λY _=>vX_ _) rfl (by kernel_rfl) λY hf hg=>?_;unfold t89;refine uW_ (Co_ f) rfl rfl (uW_ (Co_ f) rfl rfl (VOK_lt (run_eql ..) rfl (uX_ ?_)));exact congrArg AV.bool (decide_eq_true rfl)
theorem Hj_ (k i:Int) (f:Nat):jD_ Tryz.prog 48 [.agg [.int .i64 k,.int .i64 i,.flt .f64 f],.agg [.int .i64 k,.int .i64 i,.flt .f64 f]] (.bool true):=by refine uk_ (sh:=[some 3,some 3]) (ls:=[.int .i64 k,.int .i64 i,.flt .f64 f,.int .i64 k,.int .i64 i,.flt .f64 f]) (c:=c48) (n:=300) (t:=t48) mo ov rfl rfl rfl (λY _=>vX_ _) rfl (by kernel_rfl) λY hf hg=>?_;unfold t48;refine wO_ rfl (λ_=>?_) (λh=>absurd rfl h);refine wO_ rfl (λ_=>?_) (λh=>absurd rfl h);exact uW_ (Hk_ f) rfl rfl (uX_ rfl)
theorem p80 (g:GI):jD_ Tryz.prog 80 [.agg (l_ g),.agg (l_ g)] (.bool true):=by refine uk_ (sh:=[some 7,some 7]) (ls:=l_ g++l_ g) (c:=c80) (n:=300) (t:=t80) mo ov rfl rfl rfl (λY _=>vX_ _) rfl (by kernel_rfl) λY hf hg=>?_;unfold t80;refine wO_ rfl (λ_=>?_) (λh=>absurd rfl h);refine wO_ rfl (λ_=>?_) (λh=>absurd rfl h);refine wO_ rfl (λ_=>?_) (λh=>absurd rfl h);refine wO_ rfl (λ_=>?_) (λh=>absurd rfl h);exact uW_ (Hj_ _ _ _) rfl rfl (uX_ rfl)
theorem p37 {l:List GI} {x y:AV} (hx:SlV l_ 7 l x) (hy:SlV l_ 7 l y) (hl:l.length<=1000000):jD_ Tryz.prog 37 [x,y] (.bool true):=by
 refine uk_ (sh:=[none,none]) (ls:=[x,y]) (c:=c37) (n:=300) (t:=t37) mo ov (by rcases hx with rfl|⟨_,rfl⟩<;>rcases hy with rfl|⟨_,rfl⟩<;>rfl) (by simp only [okL,hx.ok okG,hy.ok okG]) rfl (λY _=>vX_ _) rfl (by kernel_rfl) λY hf hg=>?_;unfold t37;refine VOK_lt (xZ_ hx) rfl (VOK_lt (xZ_ hy) rfl (VOK_lt (run_neq ..) rfl (vz_ rfl (λh=>?_) (λ_=>?_))));have h:(!decide ((l.length:Int)=(l.length:Int)))=true:=h;rw [decide_eq_true rfl]at h;cases h;refine uY_ (ι:=Nat) (λi=>[.int .i64 (i:Int)]) (λi=>i<=l.length) (λi=>l.length-i) 0 (za' _) rfl (λ_ _=>rfl) (λi j _ _ h=>?_) (λi hi=>?_)
 .have h:=(List.cons.inj h).1;injection h with _ h
  omega
 refine VOK_lt (xZ_ hx) rfl (VOK_lt (run_lss ..) rfl (vz_ rfl (λhlt=>?_) (λ_=>uX_ rfl)));have hlt:(i:Int)<(l.length:Int):=of_decide_eq_true hlt;have hlt:i<l.length:=by omega
 refine VOK_lt (iaI hx hlt) (yn_ l i) (vA_ (ldI hlt) rfl (okG _) (VOK_lt (iaI hy hlt) (yn_ l i) (vA_ (ldI hlt) rfl (okG _) (uW_ (p80 l[i]) rfl rfl (VOK_lt (vM_ ..) rfl (vz_ (t:=false) rfl (λh=>by cases h) (λ_=>VOK_lt (run_add ..) rfl (uJ_ rfl ⟨i+1,hlt,?_,?_⟩))))))));show [AV.int .i64 (IntKind.i64.wrap ((i:Int)+1))]=[AV.int .i64 ((i+1:Nat):Int)];rw [v6_ (by omega) (by omega)];rfl;omega
theorem p12 {l:List GI} {x y:AV} (hx:SlV l_ 7 l x) (hy:SlV l_ 7 l y) (hl:l.length<=1000000) {s:SS} {st st':AV} (hs:St s.m.st st) (hs':St s.m.st st') (h:Small s):jD_ Tryz.prog 12 [.agg (u7_ x s st),.agg (u7_ y s st')] (.bool true):=by
 have okv:okC VARS=true:=by kernel_rfl
 have okx:=hx.ok okG;have oky:=hy.ok okG;refine uk_ (sh:=[some 13,some 13]) (ls:=u7_ x s st++u7_ y s st') (c:=c12) (n:=300) (t:=t12) mo ov rfl (kY_.okL_join (okT s okx hs.okC) (okT s oky hs'.okC)) rfl (λY _=>vX_ _) rfl (by kernel_rfl) λY hf hg=>?_;unfold t12;have hi:St s.im (e_ s.im):=SlV.of _;refine uW_ k36 rfl rfl (vz_ (t:=true) rfl (λ_=>?_) (λh=>by cases h));refine uW_ (p37 hx hy hl) rfl rfl (vz_ (t:=true) rfl (λ_=>?_) (λh=>by cases h));refine wO_ rfl (λ_=>?_) (λh=>absurd rfl h);refine uW_ (Et_ hi hi h.im) rfl rfl (vz_ (t:=true) rfl (λ_=>?_) (λh=>by cases h));refine uW_ (p38 hs hs' h.st h.mem) rfl rfl (vz_ (t:=true) rfl (λ_=>?_) (λh=>by cases h));refine wO_ rfl (λ_=>?_) (λh=>absurd rfl h);refine VOK_lt (run_eql ..) rfl (uX_ ?_);exact congrArg AV.bool (decide_eq_true rfl)
def N_ (x:GI):Int×Int:=
 if x.op=1\/x.op=2 then (0,1)else if x.op=3\/x.op=17\/x.op=15\/x.op=16 then (1,1)else if x.op=18\/x.op=21 then (1,0)else if x.op=19 then (2,0)else if x.op=20\/x.op=23 then (0,0)else if x.op=22 then (x.n,0)else (2,1)
def Placed (x:GI) (n:Nat):Prop:=
 (x.op=2\/x.op=18->x.ad<21)/\(x.op=3\/x.op=19->x.ad=8/\x.n=4)/\(x.op=22->(x.kd=6/\x.ad=12)\/(x.kd=9/\x.ad=16)\/(x.kd=11/\x.ad=19))/\(x.op=20\/x.op=21->x.ad<(n:Int))
theorem Placed.plc {x:GI} {n:Nat} (h:Placed x n):x.Plc n 21:=by
 obtain ⟨h1,h2,h3,h4⟩:=h;refine ⟨h1,λq=>?_,λq=>?_,h4⟩;obtain ⟨a,b⟩:=h2 q;rw [a,b];decide
 .rcases h3 q with ⟨a,b⟩|⟨a,b⟩|⟨a,b⟩<;>rw [a,b]<;>decide
theorem uH_ {x:GI} (h:decide x.May=true):x.May:=of_decide_eq_true h
theorem BC_ (b:Nat) (hb:b<400):(j_ 20 0 b 0).May:=.inr ⟨show (20:Int)≠1 by decide,rfl,rfl,rfl,.inr (.inr (.inl ⟨.inl rfl,rfl,rfl,zb' b,by show (b:Int)<=399;omega⟩))⟩
theorem BD_ (b:Nat) (hb:b<400):(j_ 21 0 b 0).May:=.inr ⟨show (21:Int)≠1 by decide,rfl,rfl,rfl,.inr (.inr (.inl ⟨.inr rfl,rfl,rfl,zb' b,by show (b:Int)<=399;omega⟩))⟩
theorem AB_ {vk vi:Int} {vf:Nat} (h:1<=vk/\vk<=5/\0<=vi/\vi<50/\(vk=1->vi<=1)/\(vk=5->vi=0)/\(vk≠5->vf=0)) (hf:zy_ vf):GI.May ⟨1,vk,0,0,vk,vi,vf⟩:=by obtain ⟨h1,h2,h3,h4,h5,h6,h7⟩:=h;refine .inl ⟨rfl,rfl,rfl,rfl,?_⟩;show OkV vk vi vf;by_cases e:vk=5;exact .inl ⟨e,h6 e⟩;refine .inr ⟨h7 e,?_⟩;by_cases e1:vk=1;have:=h5 e1;exact .inl ⟨e1,by omega⟩;by_cases e4:vk=4;exact .inr (.inr (.inr e4));omega
theorem yj_ {ad kd:Int} (h:(ad,kd)∈uy_):GI.May (j_ 2 0 ad 0)/\GI.May (j_ 18 0 ad 0)/\ad<21:=by simp only [uy_,List.mem_cons,List.not_mem_nil,or_false,Prod.mk.injEq]at h;rcases h with ⟨rfl,_⟩|⟨rfl,_⟩|⟨rfl,_⟩|⟨rfl,_⟩|⟨rfl,_⟩|⟨rfl,_⟩|⟨rfl,_⟩|⟨rfl,_⟩|⟨rfl,_⟩|⟨rfl,_⟩|⟨rfl,_⟩<;>exact ⟨uH_ (by kernel_rfl),uH_ (by kernel_rfl),by decide⟩
theorem may_x:GI.May (j_ 3 0 8 4)/\GI.May (j_ 19 0 8 4)/\GI.May (j_ 23 0 0 0):=⟨uH_ (by kernel_rfl),uH_ (by kernel_rfl),uH_ (by kernel_rfl)⟩
theorem CY_ {a b:Int} (h:2<=a/\a<=5/\2<=b/\b<=5):GI.May (j_ 17 a 0 b):=by rcases (by omega:a=2\/a=3\/a=4\/a=5)with rfl|rfl|rfl|rfl<;>rcases (by omega:b=2\/b=3\/b=4\/b=5)with rfl|rfl|rfl|rfl<;>exact uH_ (by kernel_rfl)
theorem may_un:GI.May (j_ 15 1 0 0)/\∀k:Int,2<=k/\k<=5->GI.May (j_ 16 k 0 0):=by refine ⟨uH_ (by kernel_rfl),λk h=>?_⟩;rcases (by omega:k=2\/k=3\/k=4\/k=5)with rfl|rfl|rfl|rfl<;>exact uH_ (by kernel_rfl)
theorem BA_ {op k:Int} (h:4<=op/\op<=14/\1<=k/\k<=5) (h1:op<=8->k≠1) (h2:op=8->k≠5) (h3:op=11\/op=12->k≠1) (h4:13<=op->k=1):GI.May (j_ op k 0 0):=by
 rcases (by omega:op=4\/op=5\/op=6\/op=7\/op=8\/op=9\/op=10\/op=11\/op=12\/op=13\/op=14)with rfl|rfl|rfl|rfl|rfl|rfl|rfl|rfl|rfl|rfl|rfl<;>
  rcases (by omega:k=1\/k=2\/k=3\/k=4\/k=5)with rfl|rfl|rfl|rfl|rfl<;>first|(exfalso;omega)|exact uH_ (by kernel_rfl)
theorem BB_ {kd ad:Int} {ks:List Int} (h:Blk kd ad ks):GI.May (j_ 22 kd ad (ks.length:Int))/\ks.length<=2:=by rcases h with ⟨rfl,rfl,rfl⟩|⟨rfl,rfl,rfl⟩|⟨rfl,rfl,rfl⟩<;>exact ⟨uH_ (by kernel_rfl),by decide⟩
def nx (h:Nat) (x:GI):Nat:=h-(N_ x).1.toNat+(N_ x).2.toNat
def run:Nat->List GI->Nat
 |h,[]=>h
 |h,x::r=>run (nx h x) r
theorem K_:∀(a b:List GI) (h:Nat),run h (a++b)=run (run h a) b
 |[],b,h=>rfl
 |x::a,b,h=>by simp only [List.cons_append,run,K_ a b]
structure ItG (T:Nat->Prop) (h:Nat) (x:GI):Prop where
 lo:0<=(N_ x).1/\0<=(N_ x).2
 le:(N_ x).1.toNat<=h
 up:nx h x<=16
 halt:x.op≠23
 jump:(x.op=20\/x.op=21)->nx h x=0/\∃k:Nat,T k/\x=j_ x.op 0 (k:Int) 0
 may:x.op≠20->x.op≠21->x.May/\∀n,Placed x n
def Ok (T:Nat->Prop):Nat->List GI->Prop
 |_,[]=>True
 |h,x::r=>ItG T h x/\Ok T (nx h x) r
theorem AH_ {T:Nat->Prop}:∀(a b:List GI) (h:Nat),Ok T h a->Ok T (run h a) b->Ok T h (a++b)
 |[],b,h,_,h2=>h2
 |x::a,b,h,h1,h2=>⟨h1.1,AH_ a b _ h1.2 h2⟩
theorem Cm_ {T:Nat->Prop}:∀(l:List GI) (h:Nat),Ok T h l->∀i (hi:i<l.length),ItG T (run h (l.take i)) l[i]
 |[],h,_,i,hi=>by simp at hi
 |x::r,h,ho,0,hi=>ho.1
 |x::r,h,ho,i+1,hi=>Cm_ r _ ho.2 i (by simpa using hi)
theorem DT_ {T:Nat->Prop} {h:Nat} {x:GI} (a b:Nat) (ht:N_ x=((a:Int),(b:Int))) (h1:a<=h) (h2:h-a+b<=16) (h3:x.op≠23/\x.op≠20/\x.op≠21) (hm:x.May) (hp:∀n,Placed x n):ItG T h x/\nx h x=h-a+b:=by
 have e:nx h x=h-a+b:=by unfold nx;rw [ht];simp
 refine ⟨⟨by rw [ht];simp,by rw [ht];simpa using h1,by rw [e];exact h2,h3.1,λq=>?_,λ_ _=>⟨hm,hp⟩⟩,e⟩;rcases q with q|q;exact absurd q h3.2.1;exact absurd q h3.2.2
theorem xT_ {T:Nat->Prop} {h:Nat} {x:GI} {k:Nat} (hi:ItG T h x/\nx h x=k):Ok T h [x]/\run h [x]=k:=⟨⟨hi.1,trivial⟩,hi.2⟩
theorem wm_ {T:Nat->Prop} {h k m:Nat} {a b:List GI} (ha:Ok T h a/\run h a=k) (hb:Ok T k b/\run k b=m):Ok T h (a++b)/\run h (a++b)=m:=by refine ⟨AH_ a b h ha.1 (by rw [ha.2];exact hb.1),by rw [K_,ha.2,hb.2]⟩
theorem pl0 {x:GI} (h:x.op≠2/\x.op≠18/\x.op≠3/\x.op≠19/\x.op≠22/\x.op≠20/\x.op≠21) (n:Nat):Placed x n:=by obtain ⟨h1,h2,h3,h4,h5,h6,h7⟩:=h;refine ⟨λq=>?_,λq=>?_,λq=>absurd q h5,λq=>?_⟩;rcases q with q|q;exact absurd q h1;exact absurd q h2;rcases q with q|q;exact absurd q h3;exact absurd q h4;rcases q with q|q;exact absurd q h6;exact absurd q h7
theorem xX_ {args:List GX} {k:Int} {r:List Int} (h:args.map GX.kd=k::r):kd0 args=k:=by
 cases args with
 |nil=>simp at h
 |cons a l=>simp at h;exact h.1
theorem it0 {T:Nat->Prop} {h:Nat} {x:GI} (o:Int) (hop:x.op=o) (a b:Nat) (ht:N_ x=((a:Int),(b:Int))) (h1:a<=h/\h-a+b<=16) (h3:o≠23/\o≠20/\o≠21) (hm:x.May) (hp:∀n,Placed x n):ItG T h x/\nx h x=h-a+b:=
 DT_ a b ht h1.1 h1.2 (by rw [hop];exact h3) hm hp
theorem pl1 {x:GI} (o:Int) (hop:x.op=o) (h:o≠2/\o≠18/\o≠3/\o≠19/\o≠22/\o≠20/\o≠21) (n:Nat):Placed x n:=pl0 (by rw [hop];exact h) n
theorem rng {o:Int} (h:4<=o/\o<=14):(o≠1/\o≠2/\o≠3/\o≠17)/\(o≠23/\o≠20/\o≠21)/\(o≠2/\o≠18/\o≠3/\o≠19/\o≠22/\o≠20/\o≠21):=by refine ⟨⟨?_,?_,?_,?_⟩,⟨?_,?_,?_⟩,?_,?_,?_,?_,?_,?_,?_⟩<;>omega
theorem Df_ {x:GI} (h:4<=x.op/\x.op<=14):N_ x=(((2:Nat):Int),((1:Nat):Int)):=by unfold N_;rw [if_neg (by omega),if_neg (by omega),if_neg (by omega),if_neg (by omega),if_neg (by omega),if_neg (by omega)];rfl
theorem Al_ {T:Nat->Prop} {d h:Nat} {op kd ad n vk vi:Int} {nm fd:List UInt8} {vf:Nat} {args:List GX} (hx:TX (d+1) (.mk op kd nm fd ad n vk vi vf args)) (h1:args.length<=h) (h2:h-args.length+1<=16):
  ItG T h (G_ op kd ad n vk vi vf args)/\nx h (G_ op kd ad n vk vi vf args)=h-args.length+1:=by
 have g:∀a,args.length=a->(a<=h/\h-a+1<=16):=λa e=>by subst e;exact ⟨h1,h2⟩
 obtain ⟨ha,hf,hk1,hk5,hk,_⟩:=hx;obtain ⟨c1,c2,c3,c4,c15,c16,c17⟩:=hk;rcases ha with ⟨ho,hl⟩|⟨ho,hl⟩|⟨ho,hl⟩;rcases ho with rfl|rfl;obtain ⟨q1,q2,q3,q4,q5,q6,q7,q8⟩:=c1 rfl;have e:G_ 1 kd ad n vk vi vf args=⟨1,vk,0,0,vk,vi,vf⟩:=(by unfold G_;rw [if_pos rfl]);have gg:=g _ hl;rw [e,hl];exact it0 1 rfl 0 1 rfl gg (by decide) (AB_ ⟨q2,q3,q4,q5,q6,q7,q8⟩ hf) λn=>pl1 1 rfl (by decide) n;obtain ⟨m1,m2,m3⟩:=yj_ (c2 rfl);have e:G_ 2 kd ad n vk vi vf args=j_ 2 0 ad 0:=(by unfold G_;rw [if_neg (by decide),if_pos rfl]);have gg:=g _ hl;rw [e,hl];exact it0 2 rfl 0 1 rfl gg (by decide) m1 λn=>⟨λ_=>m3,λq=>absurd q (show ¬((2:Int)=3\/(2:Int)=19) by decide),λq=>absurd q (show ¬((2:Int)=22) by decide),λq=>absurd q (show ¬((2:Int)=20\/(2:Int)=21) by decide)⟩;rcases ho with rfl|rfl|rfl|rfl;obtain ⟨rfl,rfl,rfl,_⟩:=c3 rfl;have e:G_ 3 2 8 4 vk vi vf args=j_ 3 0 8 4:=(by unfold G_;rw [if_neg (by decide),if_neg (by decide),if_pos rfl]);have gg:=g _ hl;rw [e,hl];exact it0 3 rfl 1 1 rfl gg (by decide) may_x.1 λn=>⟨λq=>absurd q (show ¬((3:Int)=2\/(3:Int)=18) by decide),λ_=>⟨rfl,rfl⟩,λq=>absurd q (show ¬((3:Int)=22) by decide),λq=>absurd q (show ¬((3:Int)=20\/(3:Int)=21) by decide)⟩;obtain ⟨rfl,hks⟩:=c15 rfl;have e:G_ 15 1 ad n vk vi vf args=j_ 15 1 0 0:=(by unfold G_;rw [if_neg (by decide),if_neg (by decide),if_neg (by decide),if_neg (by decide),xX_ hks]);have gg:=g _ hl;rw [e,hl];exact it0 15 rfl 1 1 rfl gg (by decide) may_un.1 λn=>pl1 15 rfl (by decide) n;obtain ⟨hks,k2,k5⟩:=c16 rfl;have e:G_ 16 kd ad n vk vi vf args=j_ 16 kd 0 0:=(by unfold G_;rw [if_neg (by decide),if_neg (by decide),if_neg (by decide),if_neg (by decide),xX_ hks]);have gg:=g _ hl;rw [e,hl];exact it0 16 rfl 1 1 rfl gg (by decide) (may_un.2 kd ⟨k2,k5⟩) λn=>pl1 16 rfl (by decide) n;obtain ⟨k2,k5,k,hks,j2,j5⟩:=c17 rfl;have e:G_ 17 kd ad n vk vi vf args=j_ 17 kd 0 k:=(by unfold G_;rw [if_neg (by decide),if_neg (by decide),if_neg (by decide),if_pos rfl,xX_ hks]);have gg:=g _ hl;rw [e,hl];exact it0 17 rfl 1 1 rfl gg (by decide) (CY_ ⟨k2,k5,j2,j5⟩) λn=>pl1 17 rfl (by decide) n;obtain ⟨k,hks,b1,b5,b8,b9,be,b11,b13⟩:=c4 ho;obtain ⟨⟨n1,n2,n3,n17⟩,r2,r3⟩:=rng ho;have e:G_ op kd ad n vk vi vf args=j_ op k 0 0:=(by unfold G_;rw [if_neg n1,if_neg n2,if_neg n3,if_neg n17,xX_ hks]);have gg:=g _ hl;rw [e,hl];exact it0 op rfl 2 1 (Df_ ho) gg r2 (BA_ ⟨ho.1,ho.2,b1,b5⟩ (λq=>(b8 q).2) be b11 b13) λn=>pl1 op rfl r3 n
theorem y3_ {T:Nat->Prop} {d:Nat} (ih:∀(x:GX) (h:Nat),TX d x->h+d<=16->Ok T h (i_ x)/\run h (i_ x)=h+1):∀(l:List GX) (h:Nat),(∀x∈l,TX d x)->h+l.length+d<=17->Ok T h (p_ l)/\run h (p_ l)=h+l.length
 |[],h,_,_=>⟨trivial,rfl⟩
 |a::r,h,hx,hl=>by simp only [List.length_cons]at hl;have h1:=ih a h (hx a (zc' ..)) (by omega);have h2:=y3_ ih r (h+1) (λx q=>hx x (zd' _ q)) (by omega);have:=wm_ h1 h2;simp only [p_,List.length_cons];rw [show h+(r.length+1)=h+1+r.length by omega];exact this
theorem z3_ {T:Nat->Prop}:∀(d:Nat) (x:GX) (h:Nat),TX d x->h+d<=16->Ok T h (i_ x)/\run h (i_ x)=h+1
 |0,x,h,hx,_=>hx.elim
 |d+1,.mk op kd nm fd ad n vk vi vf args,h,hx,hd=>by have hl:args.length<=2:=(by have:=hx.1;unfold Ari at this;omega);have h1:=y3_ (z3_ (T:=T) d) args h hx.2.2.2.2.2 (by omega);have h2:=Al_ (T:=T) (h:=h+args.length) hx (by omega) (by omega);rw [show h+args.length-args.length+1=h+1 by omega]at h2;simp only [i_];exact wm_ h1 (xT_ h2)
theorem Fo_ {T:Nat->Prop} {to:GX} (hx:TX 5 to) (ho:to.op=2\/to.op=3):Ok T 1 (te_ to)/\run 1 (te_ to)=0:=by obtain ⟨op,kd,nm,fd,ad,n,vk,vi,vf,args⟩:=to;obtain ⟨ha,hf,hk1,hk5,hk,hargs⟩:=hx;obtain ⟨c1,c2,c3,c4,c15,c16,c17⟩:=hk;have ho:op=2\/op=3:=ho;rcases ho with rfl|rfl;obtain ⟨m1,m2,m3⟩:=yj_ (c2 rfl);have e:te_ (.mk 2 kd nm fd ad n vk vi vf args)=[j_ 18 0 ad 0]:=rfl;rw [e];exact xT_ (it0 18 rfl 1 0 rfl (by decide) (by decide) m2 λn=>⟨λ_=>m3,λq=>absurd q (show ¬((18:Int)=3\/(18:Int)=19) by decide),λq=>absurd q (show ¬((18:Int)=22) by decide),λq=>absurd q (show ¬((18:Int)=20\/(18:Int)=21) by decide)⟩);obtain ⟨rfl,rfl,rfl,k,hks,_⟩:=c3 rfl;have hl:args.length=1:=(by have:=congrArg List.length hks;simpa using this);have h1:=y3_ (z3_ (T:=T) 4) args 1 hargs (by rw [hl];decide);rw [hl]at h1;have e:te_ (.mk 3 2 nm fd 8 4 vk vi vf args)=p_ args++[j_ 19 0 8 4]:=rfl;rw [e];exact wm_ h1 (xT_ (it0 19 rfl 2 0 rfl (by decide) (by decide) may_x.2.1 λn=>⟨λq=>absurd q (show ¬((19:Int)=2\/(19:Int)=18) by decide),λ_=>⟨rfl,rfl⟩,λq=>absurd q (show ¬((19:Int)=22) by decide),λq=>absurd q (show ¬((19:Int)=20\/(19:Int)=21) by decide)⟩))
theorem yl_ (k:Int):nx 1 (j_ 21 0 k 0)=0:=rfl
theorem zI_ (k:Int):nx 0 (j_ 20 0 k 0)=0:=rfl
theorem hjz {T:Nat->Prop} {k:Nat} (h:T k):ItG T 1 (j_ 21 0 (k:Int) 0) where
 lo:=⟨show (0:Int)<=1 by decide,show (0:Int)<=0 by decide⟩
 le:=show (1:Nat)<=1 by decide
 up:=by rw [yl_];decide
 halt:=by show (21:Int)≠23;decide
 jump:=λ_=>⟨yl_ _,k,h,rfl⟩
 may:=λ_ q=>absurd rfl q
theorem hjp {T:Nat->Prop} {k:Nat} (h:T k):ItG T 0 (j_ 20 0 (k:Int) 0) where
 lo:=⟨show (0:Int)<=0 by decide,show (0:Int)<=0 by decide⟩
 le:=show (0:Nat)<=0 by decide
 up:=by rw [zI_];decide
 halt:=by show (20:Int)≠23;decide
 jump:=λ_=>⟨zI_ _,k,h,rfl⟩
 may:=λq _=>absurd rfl q
def Aim (T:Nat->Prop) (b:Nat) (W:List GI):Prop:=∀m,m<=W.length->run 0 (W.take m)=0->T (b+m)
theorem Aim.seg {T:Nat->Prop} {b:Nat} {P Q R:List GI} (hP:run 0 P=0) (h:Aim T b (P++(Q++R))):Aim T (b+P.length) Q:=λm hm hr=>by have:=h (P.length+m) (by simp only [List.length_append];omega) (by rw [List.take_length_add_append,List.take_append_of_le_length hm,K_,hP];exact hr);rw [Nat.add_assoc];exact this
theorem Aim.at {T:Nat->Prop} {b:Nat} {P Q:List GI} (hP:run 0 P=0) (h:Aim T b (P++Q)):T (b+P.length):=
 h P.length (by simp only [List.length_append];omega) (by rw [List.take_left];exact hP)
theorem Aim.end {T:Nat->Prop} {b:Nat} {P:List GI} (hP:run 0 P=0) (h:Aim T b P):T (b+P.length):=
 h P.length (Nat.le_refl _) (by rw [List.take_length];exact hP)
theorem xt_ {T:Nat->Prop} {d:Nat} (ih:∀(s:GS) (b:Nat),TS d s->Aim T b (A_ b s)->Ok T 0 (A_ b s)/\run 0 (A_ b s)=0):∀(l:List GS) (b:Nat),(∀s∈l,TS d s)->Aim T b (g_ b l)->Ok T 0 (g_ b l)/\run 0 (g_ b l)=0
 |[],b,_,_=>⟨trivial,rfl⟩
 |s::r,b,hs,ha=>by
  simp only [g_]at ha⊢;have ha1:Aim T b (A_ b s):=by have:=Aim.seg (P:=[]) (Q:=A_ b s) (R:=g_ (b+(A_ b s).length) r) rfl ha;exact this
  have h1:=ih s b (hs s (zc' ..)) ha1;have ha2:Aim T (b+(A_ b s).length) (g_ (b+(A_ b s).length) r):=Aim.seg (P:=A_ b s) (R:=[]) h1.2 (by rw [List.append_nil];exact ha);have h2:=xt_ ih r _ (λx q=>hs x (zd' _ q)) ha2;exact wm_ h1 h2
theorem z5_ {T:Nat->Prop}:∀(d:Nat) (s:GS) (b:Nat),TS d s->Aim T b (A_ b s)->Ok T 0 (A_ b s)/\run 0 (A_ b s)=0
 |0,s,b,hs,_=>hs.elim
 |d+1,.mk op to e thn els nm kd ad args,b,hs,ha=>by rcases hs with ⟨rfl,hto,hop,he,_⟩|⟨hop,he,_,_,_,hthn,hels⟩|⟨rfl,hb,hargs⟩;have e1:A_ b (.mk 1 to e thn els nm kd ad args)=i_ e++te_ to:=(by unfold A_;rw [if_pos rfl]);rw [e1];exact wm_ (z3_ 6 e 0 he (by decide)) (Fo_ hto (hop.elim (λh=>.inl h.1) .inr));have hc:=z3_ (T:=T) 5 e 0 he (by decide);rcases hop with rfl|rfl;by_cases hE:els=[];have e1:A_ b (.mk 2 to e thn els nm kd ad args)=i_ e++[j_ 21 0 ((b+(i_ e).length+1+(g_ (b+(i_ e).length+1) thn).length:Nat):Int) 0]++g_ (b+(i_ e).length+1) thn:=(by unfold A_;rw [if_neg (by decide),if_pos rfl,if_pos hE]);rw [e1]at ha⊢;obtain ⟨k,hk⟩:∃k,k=b+(i_ e).length+1+(g_ (b+(i_ e).length+1) thn).length:=⟨_,rfl⟩;rw [←hk]at ha⊢;have hP:run 0 (i_ e++[j_ 21 0 (k:Int) 0])=0:=(by rw [K_,hc.2];exact yl_ _);have hPl:b+(i_ e++[j_ 21 0 (k:Int) 0]).length=b+(i_ e).length+1:=(by simp only [List.length_append,List.length_cons,List.length_nil];omega);have ht:=xt_ (z5_ (T:=T) d) thn (b+(i_ e).length+1) hthn (by have:=Aim.seg (R:=[]) hP (by rw [List.append_nil];exact ha);rw [hPl]at this;exact this);have hW:run 0 (i_ e++[j_ 21 0 (k:Int) 0]++g_ (b+(i_ e).length+1) thn)=0:=(by rw [K_,hP,ht.2]);have hT:=Aim.end hW ha;have hkT:T k:=(by have:b+(i_ e++[j_ 21 0 (k:Int) 0]++g_ (b+(i_ e).length+1) thn).length=k:=(by simp only [List.length_append,List.length_cons,List.length_nil];omega);rw [this]at hT;exact hT);exact wm_ (wm_ hc (xT_ ⟨hjz hkT,yl_ _⟩)) ht;have e1:A_ b (.mk 2 to e thn els nm kd ad args)=i_ e++[j_ 21 0 ((b+(i_ e).length+1+(g_ (b+(i_ e).length+1) thn).length+1:Nat):Int) 0]++g_ (b+(i_ e).length+1) thn++[j_ 20 0 ((b+(i_ e).length+1+(g_ (b+(i_ e).length+1) thn).length+1+(g_ (b+(i_ e).length+1+(g_ (b+(i_ e).length+1) thn).length+1) els).length:Nat):Int) 0]++g_ (b+(i_ e).length+1+(g_ (b+(i_ e).length+1) thn).length+1) els:=(by unfold A_;rw [if_neg (by decide),if_pos rfl,if_neg hE]);rw [e1]at ha⊢;obtain ⟨t,ht0⟩:∃t,t=g_ (b+(i_ e).length+1) thn:=⟨_,rfl⟩;rw [←ht0]at ha⊢;obtain ⟨k,hk⟩:∃k,k=b+(i_ e).length+1+t.length+1:=⟨_,rfl⟩;rw [←hk]at ha⊢;obtain ⟨q,hq0⟩:∃q,q=g_ k els:=⟨_,rfl⟩;rw [←hq0]at ha⊢;obtain ⟨j,hj⟩:∃j,j=k+q.length:=⟨_,rfl⟩;rw [←hj]at ha⊢;have hP:run 0 (i_ e++[j_ 21 0 (k:Int) 0])=0:=(by rw [K_,hc.2];exact yl_ _);have hPl:b+(i_ e++[j_ 21 0 (k:Int) 0]).length=b+(i_ e).length+1:=(by simp only [List.length_append,List.length_cons,List.length_nil];omega);have ht:=xt_ (z5_ (T:=T) d) thn (b+(i_ e).length+1) hthn (by have:=Aim.seg (P:=i_ e++[j_ 21 0 (k:Int) 0]) (Q:=t) (R:=[j_ 20 0 (j:Int) 0]++q) hP (by simpa only [List.append_assoc]using ha);rw [hPl,ht0]at this;exact this);rw [←ht0]at ht;have hP2:run 0 (i_ e++[j_ 21 0 (k:Int) 0]++t++[j_ 20 0 (j:Int) 0])=0:=(by rw [K_,K_,hP,ht.2];exact zI_ _);have hPl2:b+(i_ e++[j_ 21 0 (k:Int) 0]++t++[j_ 20 0 (j:Int) 0]).length=k:=(by simp only [List.length_append,List.length_cons,List.length_nil];omega);have hq:=xt_ (z5_ (T:=T) d) els k hels (by have:=Aim.seg (R:=[]) hP2 (by rw [List.append_nil];exact ha);rw [hPl2,hq0]at this;exact this);rw [←hq0]at hq;have hkT:T k:=(by have:=Aim.at hP2 ha;rw [hPl2]at this;exact this);have hW:run 0 (i_ e++[j_ 21 0 (k:Int) 0]++t++[j_ 20 0 (j:Int) 0]++q)=0:=(by rw [K_,hP2,hq.2]);have hjT:T j:=(by have:=Aim.end hW ha;rw [List.length_append,←Nat.add_assoc,hPl2,←hj]at this;exact this);exact wm_ (wm_ (wm_ (wm_ hc (xT_ ⟨hjz hkT,yl_ _⟩)) ht) (xT_ ⟨hjp hjT,zI_ _⟩)) hq;have e1:A_ b (.mk 3 to e thn els nm kd ad args)=i_ e++[j_ 21 0 ((b+(i_ e).length+1+(g_ (b+(i_ e).length+1) thn).length+1:Nat):Int) 0]++g_ (b+(i_ e).length+1) thn++[j_ 20 0 (b:Int) 0]:=(by unfold A_;rw [if_neg (by decide),if_neg (by decide),if_pos rfl]);rw [e1]at ha⊢;obtain ⟨t,ht0⟩:∃t,t=g_ (b+(i_ e).length+1) thn:=⟨_,rfl⟩;rw [←ht0]at ha⊢;obtain ⟨k,hk⟩:∃k,k=b+(i_ e).length+1+t.length+1:=⟨_,rfl⟩;rw [←hk]at ha⊢;have hP:run 0 (i_ e++[j_ 21 0 (k:Int) 0])=0:=(by rw [K_,hc.2];exact yl_ _);have hPl:b+(i_ e++[j_ 21 0 (k:Int) 0]).length=b+(i_ e).length+1:=(by simp only [List.length_append,List.length_cons,List.length_nil];omega);have ht:=xt_ (z5_ (T:=T) d) thn (b+(i_ e).length+1) hthn (by have:=Aim.seg (P:=i_ e++[j_ 21 0 (k:Int) 0]) (Q:=t) (R:=[j_ 20 0 (b:Int) 0]) hP (by simpa only [List.append_assoc]using ha);rw [hPl,ht0]at this;exact this);rw [←ht0]at ht;have hW:run 0 (i_ e++[j_ 21 0 (k:Int) 0]++t++[j_ 20 0 (b:Int) 0])=0:=(by rw [K_,K_,hP,ht.2];exact zI_ _);have hkT:T k:=(by have:=Aim.end hW ha;have h2:b+(i_ e++[j_ 21 0 (k:Int) 0]++t++[j_ 20 0 (b:Int) 0]).length=k:=(by simp only [List.length_append,List.length_cons,List.length_nil];omega);rw [h2]at this;exact this);have hbT:T b:=(by have:=ha 0 (za' _) rfl;exact this);exact wm_ (wm_ (wm_ hc (xT_ ⟨hjz hkT,yl_ _⟩)) ht) (xT_ ⟨hjp hbT,zI_ _⟩);have e1:A_ b (.mk 4 to e thn els nm kd ad args)=p_ args++[j_ 22 kd ad (args.length:Int)]:=(by unfold A_;rw [if_neg (by decide),if_neg (by decide),if_neg (by decide)]);obtain ⟨hm,hl⟩:=BB_ hb;rw [List.length_map]at hm hl;rw [e1];have h1:=y3_ (z3_ (T:=T) 5) args 0 hargs.1 (by omega);rw [Nat.zero_add]at h1;have h3:=it0 (T:=T) (h:=args.length) (x:=j_ 22 kd ad (args.length:Int)) 22 rfl args.length 0 rfl (by omega) (by decide) hm λn=>⟨λq=>absurd q (show ¬((22:Int)=2\/(22:Int)=18) by decide),λq=>absurd q (show ¬((22:Int)=3\/(22:Int)=19) by decide),λ_=>?_,λq=>absurd q (show ¬((22:Int)=20\/(22:Int)=21) by decide)⟩;rw [Nat.sub_self]at h3;exact wm_ h1 (xT_ h3);rcases hb with ⟨a,b,_⟩|⟨a,b,_⟩|⟨a,b,_⟩;exact .inl ⟨a,b⟩;exact .inr (.inl ⟨a,b⟩);exact .inr (.inr ⟨a,b⟩)
def FD_ (x:GI) (i h n:Nat) (ht:Nat->Nat):Prop:=((x.op=20\/x.op=21)->∃k:Nat,x.ad=(k:Int)/\k<n/\ht k=h)/\(x.op≠20->x.op≠23->i+1<n/\ht (i+1)=h)
structure Stands (l:List GI) (ht:Nat->Nat):Prop where
 n1:0<l.length
 n4:l.length<=400
 last:∀h:l.length-1<l.length,l[l.length-1].op=23
 zero:ht 0=0
 le:∀i,ht i<=16
 may:∀x∈l,x.May
 plc:∀x∈l,x.Plc l.length 21
 step:∀i (h:i<l.length),∃a b:Nat,N_ l[i]=((a:Int),(b:Int))/\a<=ht i/\ht i-a+b<=16/\FD_ l[i] i (ht i-a+b) l.length ht
theorem yC_ (l:List GI) (i:Nat) (h:i<l.length) (k:Nat):run k (l.take (i+1))=nx (run k (l.take i)) l[i]:=by rw [List.take_succ_eq_append_getElem h,K_];rfl
theorem stands {x:List GS} (hx:∀s∈x,TS 3 s) (h4:(w_ x).length<=400):Stands (w_ x) (λi=>run 0 ((w_ x).take i)):=by
 obtain ⟨G,hG⟩:∃G,G=g_ 0 x:=⟨_,rfl⟩;have hL:w_ x=G++[j_ 23 0 0 0]:=by rw [hG];rfl
 rw [hL]at h4⊢;obtain ⟨T,hT⟩:∃T:Nat->Prop,T=λk=>k<(G++[j_ 23 0 0 0]).length/\run 0 ((G++[j_ 23 0 0 0]).take k)=0:=⟨_,rfl⟩;have hlen:(G++[j_ 23 0 0 0]).length=G.length+1:=by simp
 have aim:Aim T 0 (g_ 0 x):=λm hm hr=>by rw [←hG]at hm hr;rw [hT,Nat.zero_add];exact ⟨by omega,by rw [List.take_append_of_le_length hm];exact hr⟩
 have hok:=xt_ (z5_ (T:=T) 3) x 0 hx aim;rw [←hG]at hok;obtain ⟨ok,hr0⟩:=hok;have at1:∀i (h:i<(G++[j_ 23 0 0 0]).length),(i<G.length/\ItG T (run 0 ((G++[j_ 23 0 0 0]).take i)) (G++[j_ 23 0 0 0])[i])\/(i=G.length/\(G++[j_ 23 0 0 0])[i]=j_ 23 0 0 0):=λi h=>by by_cases hi:i<G.length;refine .inl ⟨hi,?_⟩;have:=Cm_ G 0 ok i hi;rw [List.take_append_of_le_length (by omega),List.getElem_append_left hi];exact this;have e:i=G.length:=(by omega);subst e;exact .inr ⟨rfl,by simp⟩
 have hh:nx 0 (j_ 23 0 0 0)=0:=rfl;have hrL:run 0 (G++[j_ 23 0 0 0])=0:=by rw [K_,hr0];exact hh
 have mem:∀y∈G++[j_ 23 0 0 0],∃i,∃h:i<(G++[j_ 23 0 0 0]).length,y=(G++[j_ 23 0 0 0])[i]:=λy hy=>by obtain ⟨i,h,e⟩:=List.mem_iff_getElem.1 hy;exact ⟨i,h,e.symm⟩
 refine ⟨by omega,h4,λh=>?_,rfl,λi=>?_,λy hy=>?_,λy hy=>?_,λi h=>?_⟩;rcases at1 _ h with ⟨q,_⟩|⟨_,q⟩;omega;rw [q];rfl
 .cases i with
  |zero=>exact za' _
  |succ i=>by_cases hi:i<(G++[j_ 23 0 0 0]).length;show run 0 ((G++[j_ 23 0 0 0]).take (i+1))<=16;rw [yC_ _ i hi];rcases at1 i hi with ⟨_,q⟩|⟨e,q⟩;exact q.up;rw [q,e,List.take_left,hr0,hh];exact za' _;show run 0 ((G++[j_ 23 0 0 0]).take (i+1))<=16;rw [List.take_of_length_le (by omega),hrL];exact za' _
 obtain ⟨i,h,rfl⟩:=mem y hy;rcases at1 i h with ⟨_,q⟩|⟨_,q⟩;by_cases hj:(G++[j_ 23 0 0 0])[i].op=20\/(G++[j_ 23 0 0 0])[i].op=21;obtain ⟨_,k,hk,e⟩:=q.jump hj;rw [hT]at hk;have hk:=hk.1;rcases hj with hj|hj;rw [e,hj];exact BC_ k (by omega);rw [e,hj];exact BD_ k (by omega);exact (q.may (λe=>hj (.inl e)) (λe=>hj (.inr e))).1;rw [q];exact may_x.2.2;obtain ⟨i,h,rfl⟩:=mem y hy;refine Placed.plc ?_;rcases at1 i h with ⟨_,q⟩|⟨_,q⟩;by_cases hj:(G++[j_ 23 0 0 0])[i].op=20\/(G++[j_ 23 0 0 0])[i].op=21;obtain ⟨_,k,hk,e⟩:=q.jump hj;rw [hT]at hk;have hk:=hk.1;have ho:∀o:Int,(o=20\/o=21)->Placed (j_ o 0 (k:Int) 0) (G++[j_ 23 0 0 0]).length:=λo ho=>(by have e0:(j_ o 0 (k:Int) 0).op=o:=rfl;refine ⟨λq=>?_,λq=>?_,λq=>?_,λ_=>?_⟩;rw [e0]at q;omega;rw [e0]at q;omega;rw [e0]at q;omega;show (k:Int)<_;omega);rw [e];exact ho _ hj;exact (q.may (λe=>hj (.inl e)) (λe=>hj (.inr e))).2 _;rw [q];exact pl1 23 rfl (by decide) _;rcases at1 i h with ⟨hi,q⟩|⟨_,q⟩;have h27:N_ (G++[j_ 23 0 0 0])[i]=((N_ (G++[j_ 23 0 0 0])[i]).1,(N_ (G++[j_ 23 0 0 0])[i]).2):=rfl;have e1:=ze' q.lo.1;have e2:=ze' q.lo.2;refine ⟨_,_,by rw [e1,e2],q.le,q.up,λhj=>?_,λ_ _=>⟨by omega,yC_ _ i h 0⟩⟩;obtain ⟨h0,k,hk,e⟩:=q.jump hj;rw [hT]at hk;refine ⟨k,by rw [e];rfl,hk.1,?_⟩;exact hk.2.trans h0.symm;have h27:N_ (j_ 23 0 0 0)=(((0:Nat):Int),((0:Nat):Int)):=rfl;rw [q];exact ⟨0,0,h27,za' _,by have:=za' 16;show run 0 _-0+0<=16;rw [show i=G.length by omega,List.take_left,hr0];exact this,λhj=>absurd hj (show ¬((23:Int)=20\/(23:Int)=21) by decide),λ_ hn=>absurd rfl hn⟩
theorem A3_ (x:GI):(N_ x).1.toNat=d_ x/\(N_ x).2.toNat=(x_ x.op).toNat:=by
 unfold N_ d_ x_
 (repeat' split)<;>first|exact ⟨rfl,rfl⟩|(exfalso;omega)|(refine ⟨?_,?_⟩<;>simp_all<;>omega)
theorem zx_ {l:List GI} {ht:Nat->Nat} (h:Stands l ht) {w:Nat×Nat} (hw:w.1<l.length) (he:w.2=ht w.1):(n_ l).full w=false/\∀w'∈(n_ l).nxt w,w'.1<l.length/\w'.2=ht w'.1:=by
 obtain ⟨i,k⟩:=w;have hw:i<l.length:=hw;have he:k=ht i:=he;subst he;obtain ⟨a,b,h1,h2,h3,hg⟩:=h.step i hw;obtain ⟨q1,q2⟩:=A3_ l[i];rw [h1]at q1 q2;have q1:a=d_ l[i]:=by simpa using q1
 have q2:b=(x_ l[i].op).toNat:=by simpa using q2
 have ei:l[i]? =some l[i]:=List.getElem?_eq_getElem hw;have t1:(n_ l).tk i=a:=by simp only [n_,ei,q1]
 have t2:(n_ l).lv i=b:=by simp only [n_,ei,q2]
 have t3:(n_ l).goes i=s_ l[i] i:=by simp only [n_,ei]
 have f0:(n_ l).full (i,ht i)=false:=by unfold WG.full;simp only [t1,t2,Bool.or_eq_false_iff,decide_eq_false_iff_not];omega
 refine ⟨f0,λw' hn=>?_⟩;obtain ⟨_,n1,n2,_⟩:=WG.nxt_hi hn;have n1:w'.2=ht i-a+b:=by rw [n1];show ht i-(n_ l).tk i+(n_ l).lv i=_;rw [t1,t2]
 have n2:w'.1∈s_ l[i] i:=by rw [←t3];exact n2
 obtain ⟨g1,g2⟩:=hg;unfold s_ at n2;split at n2;cases n2
 next h23=>
 split at n2
 next h20=>
  obtain ⟨k,e1,e2,e3⟩:=g1 (.inl h20);rw [e1]at n2;have n2:w'.1=k:=(by simpa using n2);rw [n1,n2];exact ⟨e2,e3.symm⟩
 next h20=>
 have g2:=g2 h20 h23;split at n2
 next h21=>
  obtain ⟨k,e1,e2,e3⟩:=g1 (.inr h21);rw [e1]at n2;have n2:w'.1=k\/w'.1=i+1:=(by simpa using n2);rcases n2 with n2|n2;rw [n1,n2];exact ⟨e2,e3.symm⟩;rw [n1,n2];exact ⟨g2.1,g2.2.symm⟩
 next h21=>
  have n2:w'.1=i+1:=(by simpa using n2);rw [n1,n2];exact ⟨g2.1,g2.2.symm⟩
theorem xm_ {l:List GI} {ht:Nat->Nat} (h:Stands l ht) {w:Nat×Nat} (hr:(n_ l).Reach w):w.1<l.length/\w.2=ht w.1:=by
 induction hr with
 |zero=>exact ⟨h.n1,h.zero.symm⟩
 |step _ hw ih=>exact (zx_ h ih.1 ih.2).2 _ hw
theorem zX_ {x:List GS} (hx:∀s∈x,TS 3 s) (h4:(w_ x).length<=400):VerI (w_ x) 21 0:=by
 have h:=stands hx h4;have hA:FormA (w_ x):=⟨h.n1,h.n4,h.may,h.last⟩;have hF:Form (w_ x) 21:=hA.form h.plc;have n1:¬(n_ (w_ x)).Full:=λ⟨w,hr,hf⟩=>by obtain ⟨a,b⟩:=xm_ h hr;rw [(zx_ h a b).1]at hf;cases hf
 have n2:¬(n_ (w_ x)).Two:=λ⟨a,k,k',h1,h2,hne⟩=>hne ((xm_ h h1).2.trans (xm_ h h2).2.symm);exact ⟨λq=>absurd hA q,λ_ q=>absurd h.plc q,λ_ q=>absurd q n1,λ_ _ q=>absurd q n2,λ_ _ _=>rfl⟩
def ft15:FT:=⟨0,⟨[(0,.agg (hs 0 13))],[],0,13,[],[],[]⟩,[(false,⟨[(0,.tup [.agg (hs 0 13),.slx 13 0 0])],[],0,14,[],[],[]⟩)]⟩
def c13:VC:=⟨⟨[],[]⟩,[(31,[(some 13)]),(39,[(some 7)])],[],0,true,[]⟩
def t13:VT:=.call 31 [.agg [64,65,66,67,68,69,70,71,72,73,74,75,76]] 78 [(some 13)]<|It Z3 [89,J 0] 91 (.call 39 [81,77] 92 [(some 7)]<|.done (.agg [78,79,80,81,92,93,94,95,96,97,98,89,90]))<|.done (.agg [78,79,80,81,82,83,84,85,86,87,88,89,90])
def Gv_:VC:=⟨⟨[],[]⟩,[],[],0,true,[]⟩
def Fn_:VT:=Li Qz [65] 66<|It Qd [66,J 21] 67 (Dn [.nsl])<|It Zj [65,.nsl] 68 (Li Qw [.nsl,J 2] 69 .bad)<|Li Qe [.vsl 0 3 [],65] 69<|Li Q2 [69,J 2] 70<|Li Z1 [69,70,.agg [J 2,J 7,.flt .f64 0]] 71<|Li Q2 [69,J 3] 72<|Li Z1 [71,72,.agg [J 1,J 1,.flt .f64 0]] 73<|.chk (.same 69 73)<|Dn [73]
def c15:VC:=⟨⟨[],[]⟩,[(31,[(some 13)]),(42,[none])],[],0,true,[(41,CO_),(43,ft43)]⟩
def t15:VT:=.call 31 [.agg [64,65,66,67,68,69,70,71,72,73,74,75,76]] 77 [(some 13)]<|It Q7 [88,J 0] 90 (Dn [77,78,79,80,81,82,83,84,85,86,87,88,89,.bool true])<|.ite 86 (Dn [77,78,79,80,81,82,83,84,85,86,87,88,89,.bool true])<|It Z7 [84,79] 91 (.ite 86 (.call 42 [83] 92 [none]<|Li Q3 [89,J 1] 93<|Dn [77,78,79,92,81,82,83,84,85,86,J 8,88,93,.bool true])<|Cf 43 ft43 [77,80] 92 1<|Li Q3 [89,J 1] 95<|Dn [77,78,79,94,81,82,83,84,85,86,J 8,J 8,95,.bool true])<|Cf 41 CO_ [78,81,82,83,84,85,86,87] 92 7<|.ite 105 (.call 42 [102] 107 [none]<|Li Q3 [89,J 1] 108<|Dn [77,78,79,107,100,101,102,103,104,105,106,88,108,.bool true])<|It Q7 [106,J 0] 107 (Cf 43 ft43 [77,80] 108 1<|Li Q3 [89,J 1] 111<|Dn [77,78,79,110,100,101,102,103,104,105,106,106,111,.bool true])<|Dn [77,78,79,80,100,101,102,103,104,105,106,88,89,.bool false]
def vZ_ (l:List FV):List FV:=(l.set 2 ⟨2,7,some 0⟩).set 3 ⟨1,1,some 0⟩
theorem AV_ {l:List FV} (h:MemOk l):(vZ_ l).length=21:=by unfold vZ_;rw [List.length_set,List.length_set,h.len]
theorem zs_ {l:List FV} (h:MemOk l):MemOk (vZ_ l):=by
 obtain ⟨a0,a1,a2,a3,a4,a5,a6,a7,a8,a9,a10,a11,a12,a13,a14,a15,a16,a17,a18,a19,a20,rfl⟩:=vH_ h.len;have t2:TV ⟨2,7,some 0⟩:=by simp only [TV,InK];decide
 have t3:TV ⟨1,1,some 0⟩:=by simp only [TV,InK];decide
 exact ((h.set (i:=2) (Nat.lt_of_lt_of_eq (by decide) h.len.symm) t2 (by have:=(MemOk.of.1 h);show (2:Int)=a2.k;exact this.1.2.2.1.symm)).set (i:=3) (by rw [List.length_set,h.len];decide) t3 (by have:=(MemOk.of.1 h);show (1:Int)=a3.k;exact this.1.2.2.2.1.symm))
def RIv (l:List FV):Nat->List AV->Prop:=λ_ ws=>ws=[e_ l]
theorem C4_ {l:List FV} {B:World} {pr:Nat->Prop} {E:Env} {w:World} {us:List Value} (h:∀(i:Nat) (a:AV),[VARS,e_ l][i]? =some a->E.sy (64+i)=some a) (hr:Rel B pr E (ft43.ent.heap 64) w) (hc:ConL E (bs_ 64 (cm_ ft43.ent.slots)) us):
  Rel B pr E H0 w/\ConL E [VARS,.sym 65] us:=by
 refine ⟨hr,?_⟩;have e:bs_ 64 (cm_ ft43.ent.slots)=[.sym 64,.sym 65]:=by kernel_rfl
 rw [e]at hc;have e2:[VARS,AV.sym 65]=fT_ 0 VARS [.sym 64,.sym 65]:=rfl;rw [e2];refine jl_ (a:=.sym 64) (λv hv=>?_) 0 _ _ rfl hc;obtain ⟨a,h1,_,h3⟩:=hv;have:=h 0 VARS rfl;rw [h1]at this;cases this;exact h3.con
theorem AG_ {l:List FV} (h:l.length=21):∃r,e_ l=.vsl 21 3 r/\(XOp.bin .eql 34 false true).run Tryz.prog [e_ l,.nsl]=some (.bool false):=by
 cases l with
 |nil=>cases h
 |cons a r=>have h:r.length+1=21:=h;refine ⟨bi_ m_ (a::r),by show AV.vsl (r.length+1) 3 _=_;rw [h],by kernel_rfl⟩
theorem DY_ (l:List FV):(XOp.len 34).run Tryz.prog [e_ l]=some (.int .i64 (l.length:Int)):=(SlV.of (enc:=m_) (w:=3) l).len Tryz.underlying34
theorem Dr_ {l:List FV} (h:l.length=21):(XOp.app 3 24).run Tryz.prog [.vsl 0 3 [],e_ l]=some (e_ l):=by have:=Cz_ (l:=l) wt_ (by decide) (by decide) (b:=24) (SlV.of (enc:=m_) (w:=3) l) (by omega);exact this.trans (congrArg some (y0_ (λe=>by rw [e]at h;cases h)))
theorem Dc_ {Y:Sy} {i j:Nat} {l l':List FV} (h1:Y.v i=some (e_ l)) (h2:Y.v j=some (e_ l')) (h:l.length=21) (h':l'.length=21):(Chk.same i j).ok Y:=by obtain ⟨r,e,_⟩:=AG_ h;obtain ⟨r',e',_⟩:=AG_ h';rw [e]at h1;rw [e']at h2;exact .inr ⟨21,3,_,_,h1,h2⟩
theorem p43 {l:List FV} (h:MemOk l):CF Tryz.prog 43 ft43 [VARS,e_ l] (RIv (vZ_ l)):=by
 have hl:=h.len;have hl2:(l.set 2 ⟨2,7,some 0⟩).length=21:=by rw [List.length_set];exact hl
 refine vB_ (c:=Gv_) (ex:=[]) (args:=[VARS,.sym 65]) (H:=H0) (n:=300) (t:=Fn_) mo ov rfl (λY=>vX_ _) rfl (λB pr E w us h _ hr hc=>C4_ h hr hc) (by kernel_rfl) λY hf hg=>?_;unfold Fn_;obtain ⟨_,_,hnn⟩:=AG_ hl;refine VOK_lt (DY_ l) rfl (VOK_lt (run_neq ..) rfl (vz_ rfl (λhc=>?_) (λ_=>?_)));have hc:(!decide ((l.length:Int)=21))=true:=hc;rw [decide_eq_true (by omega)]at hc;cases hc;refine VOK_lt hnn rfl (vz_ (t:=false) rfl (λh=>by cases h) (λ_=>?_));refine VOK_lt (Dr_ hl) (qt_ _) (VOK_lt (bp_ l (i:=2) (by omega)) rfl (VOK_lt (vY_ l (i:=2) (by omega) ⟨2,7,some 0⟩) (qt_ _) (VOK_lt (bp_ l (i:=3) (by omega)) rfl (VOK_lt (vY_ _ (i:=3) (by omega) ⟨1,1,some 0⟩) (qt_ _) (vy_ (Dc_ rfl rfl hl (AV_ h)) ?_)))));exact VOK_fin (by show okL [e_ _]=true;simp only [okL,qt_]) rfl
def oC_ (s:SS) (now:Int):SS:=if s.err=0 then { s with m:=BG_ s.im now } else s
def vw_ (s:SS) (st:AV):AV:=if s.err=0 then .nsl else st
theorem z9_ {s:SS} {st:AV} (now:Int) (h:St s.m.st st):St (oC_ s now).m.st (vw_ s st):=by unfold oC_ vw_;split;exact x3_;exact h
theorem zp_ {x st:AV} (s:SS) (now:Int) (hx:okC x=true) (hs:okC st=true):okL (u7_ x (oC_ s now) (vw_ s st))=true:=okT _ hx (by unfold vw_;split;rfl;exact hs)
theorem p13 {l:List GI} {x:AV} (hx:SlV l_ 7 l x) (hl:l.length<=1000000) {s:SS} {st:AV} (hs:St s.m.st st) (h:Small s) (hm:MemOk s.im) (now:Int):jD_ Tryz.prog 13 [.agg (u7_ x s st),.int .i64 now] (.agg (u7_ x (oC_ s now) (vw_ s st))):=by have okx:=hx.ok okG;refine uk_ (sh:=[some 13,none]) (ls:=u7_ x s st++[.int .i64 now]) (c:=c13) (n:=300) (t:=t13) mo ov rfl (kY_.okL_join (okT s okx hs.okC) rfl) (wp_ (zp_ s now okx hs.okC)) (λY _=>vX_ _) rfl (by kernel_rfl) λY hf hg=>?_;unfold t13;refine uW_ (p31 hx hl hs h) rfl (okT s okx hs.okC) (VOK_lt (run_eql ..) rfl (vz_ rfl (λh0=>?_) (λh0=>uX_ ?_)));have h0:s.err=0:=dT h0;refine uW_ (p39 hm now) rfl (by show okL [e_ s.im,.int .i64 now]=true;simp only [okL,okC,qt_]) (uX_ ?_);show AV.agg _=_;unfold oC_ vw_;rw [if_pos h0,if_pos h0];rfl;have h0:¬s.err=0:=dF h0;unfold oC_ vw_;rw [if_neg h0,if_neg h0];rfl
def onS (s:SS):Prop:=s.err=0/\s.m.over=false
def mS (l:List GI) (s:SS):MS:=if s.most<=s.m.used then { s.m with err:=8 } else f_ l s.m
def M_ (l:List GI) (s:SS):SS:=
 if s.err≠0\/s.m.over=true then s
 else if (mS l s).over=true then { s with im:=(mS l s).mem,m:=mS l s,n:=IntKind.i64.wrap (s.n+1) }
 else if (mS l s).err≠0 then { s with im:=vZ_ s.im,m:=mS l s,err:=(mS l s).err,n:=IntKind.i64.wrap (s.n+1) }
 else { s with m:=mS l s }
def u5_ (l:List GI) (s:SS):Bool:=if s.err≠0\/s.m.over=true then true else decide ((mS l s).over=true\/(mS l s).err≠0)
structure Run (l:List GI) (T:List (List Int)) (s:SS):Prop where
 im:MemOk s.im
 st:s.m.st.length<=1000
 mem:s.m.mem.length<=1000
 now: -9223372036854775808<=s.m.now/\s.m.now<=9223372036854775807
 used:0<=s.m.used/\s.m.used<=100000
 most:s.most<=100000
 mt:s.err=0->s.m.over=false->MTs l T s.m/\s.m.err=0
def FH_ (x:AV) (s:SS) (due:Bool):Nat->List AV->Prop:=λ_ ws=>∃st,St s.m.st st/\ws=u7_ x s st++[.bool due]
theorem Run.small {l:List GI} {T:List (List Int)} {s:SS} (h:Run l T s):Small s:=⟨by have:=h.im.len;omega,h.st,h.mem⟩
theorem zK_ {x st:AV} (s:SS) (b:Bool) (hx:okC x=true) (hs:okC st=true):okL (u7_ x s st++[.bool b])=true:=kY_.okL_join (okT s hx hs) rfl
theorem Az_ {l:List GI} {s:SS} (h:s.most<=s.m.used):mS l s={ s.m with err:=8 }:=if_pos h
theorem zm_ {l:List GI} {s:SS} (h:¬s.most<=s.m.used):mS l s=f_ l s.m:=if_neg h
theorem p15 {l:List GI} {T:List (List Int)} (hG:Good T 0 l) (hl:l.length<=400) (hlen:T.length=l.length) {s:SS} {st:AV} (hs:St s.m.st st) (h:Run l T s):CF Tryz.prog 15 ft15 (u7_ (k_ l) s st) (FH_ (k_ l) (M_ l s) (u5_ l s)):=by
 have okx:okC (k_ l)=true:=okI l;have okv:okC VARS=true:=by kernel_rfl
 have hx:SlV l_ 7 l (k_ l):=SlV.of l;refine vC_ (c:=c15) (n:=300) (t:=t15) mo ov rfl (λY _=>vX_ _) (by kernel_rfl) λY hf hg=>?_;unfold t15;refine uW_ (p31 hx (by omega) hs h.small) rfl (okT s okx hs.okC) (VOK_lt (run_neq ..) rfl (vz_ rfl (λh0=>?_) (λh0=>?_)));have h0:(!decide (s.err=0))=true:=h0;have h0:s.err≠0:=(by simpa using h0);have e1:M_ l s=s:=if_pos (.inl h0);have e2:u5_ l s=true:=if_pos (.inl h0);rw [e1,e2];exact VOK_fin (zK_ s true okx hs.okC) ⟨st,hs,rfl⟩;have h0:(!decide (s.err=0))=false:=h0;have h0:s.err=0:=by simpa using h0
 refine vz_ rfl (λho=>?_) (λho=>?_);have e1:M_ l s=s:=if_pos (.inr ho);have e2:u5_ l s=true:=if_pos (.inr ho);rw [e1,e2];exact VOK_fin (zK_ s true okx hs.okC) ⟨st,hs,rfl⟩;have ho:s.m.over=false:=ho;have hon:¬(s.err≠0\/s.m.over=true):=by rw [h0,ho];simp
 obtain ⟨hmt,hme⟩:=h.mt h0 ho;have oki:∀l:List FV,okL [VARS,e_ l]=true:=λl=>by simp only [okL,okv,qt_]
 refine VOK_lt (run_geq ..) rfl (vz_ rfl (λhu=>?_) (λhu=>?_));have hu:s.most<=s.m.used:=dT hu;have em:=Az_ (l:=l) hu;refine vz_ (t:=false) (by show _=some (AV.bool false);rw [←ho];rfl) (λh=>by cases h) (λ_=>?_);have e1:M_ l s={ s with im:=vZ_ s.im,m:={ s.m with err:=8 },err:=8,n:=IntKind.i64.wrap (s.n+1) }:=(by unfold M_;rw [if_neg hon,em,if_neg (by show ¬s.m.over=true;rw [ho];decide),if_pos (by show (8:Int)≠0;decide)]);have e2:u5_ l s=true:=(by unfold u5_;rw [if_neg hon,em];exact decide_eq_true (.inr (by show (8:Int)≠0;decide)));rw [e1,e2];refine a_ (p43 h.im) rfl (oki _) ⟨?_,trivial⟩;rintro ws rfl;refine VOK_lt (run_add ..) rfl (VOK_fin ?_ ⟨st,hs,?_⟩);exact zK_ { s with im:=vZ_ s.im,m:={ s.m with err:=8 },err:=8,n:=IntKind.i64.wrap (s.n+1) } true okx hs.okC;rfl;have hu:¬s.most<=s.m.used:=dF hu;have em:=zm_ (l:=l) hu;refine a_ (p41 hG h.now hl (by have:=h.used;omega) hmt hs) rfl (GZ_ l hs (r:=[]) rfl) ⟨?_,trivial⟩;rintro ws ⟨st',hs',rfl⟩;refine vz_ rfl (λho'=>?_) (λho'=>?_);have ho':(f_ l s.m).over=true:=ho';have e1:M_ l s={ s with im:=(f_ l s.m).mem,m:=f_ l s.m,n:=IntKind.i64.wrap (s.n+1) }:=(by unfold M_;rw [if_neg hon,em,if_pos ho']);have e2:u5_ l s=true:=(by unfold u5_;rw [if_neg hon,em];exact decide_eq_true (.inl ho'));rw [e1,e2];have hml:=(MTs.small hG (yF_ hlen hG h.now hmt)).2.len;refine uW_ (BL_ (SlV.of (enc:=m_) (w:=3) (f_ l s.m).mem) (by omega)) rfl (by show okL [e_ _]=true;simp only [okL,qt_]) (VOK_lt (run_add ..) rfl (VOK_fin ?_ ⟨st',hs',?_⟩));exact zK_ { s with im:=(f_ l s.m).mem,m:=f_ l s.m,n:=IntKind.i64.wrap (s.n+1) } true okx hs'.okC;rfl;have ho':(f_ l s.m).over=false:=ho';refine VOK_lt (run_neq ..) rfl (vz_ rfl (λhe=>?_) (λhe=>?_));have he:(!decide ((f_ l s.m).err=0))=true:=he;have he:(f_ l s.m).err≠0:=(by simpa using he);have e1:M_ l s={ s with im:=vZ_ s.im,m:=f_ l s.m,err:=(f_ l s.m).err,n:=IntKind.i64.wrap (s.n+1) }:=(by unfold M_;rw [if_neg hon,em,if_neg (by rw [ho'];decide),if_pos he]);have e2:u5_ l s=true:=(by unfold u5_;rw [if_neg hon,em];exact decide_eq_true (.inr he));rw [e1,e2];refine a_ (p43 h.im) rfl (oki _) ⟨?_,trivial⟩;rintro ws rfl;refine VOK_lt (run_add ..) rfl (VOK_fin ?_ ⟨st',hs',?_⟩);exact zK_ { s with im:=vZ_ s.im,m:=f_ l s.m,err:=(f_ l s.m).err,n:=IntKind.i64.wrap (s.n+1) } true okx hs'.okC;rfl;have he:(!decide ((f_ l s.m).err=0))=false:=he;have he:(f_ l s.m).err=0:=by simpa using he
 have e1:M_ l s={ s with m:=f_ l s.m }:=by unfold M_;rw [if_neg hon,em,if_neg (by rw [ho'];decide),if_neg (by rw [he];decide)]
 have e2:u5_ l s=false:=by unfold u5_;rw [if_neg hon,em];exact decide_eq_false (by rw [ho',he];simp)
 rw [e1,e2];exact VOK_fin (zK_ { s with m:=f_ l s.m } false okx hs'.okC) ⟨st',hs',rfl⟩
namespace Beg
abbrev G (l:List (FuncId×List AV×AV)):Gl:=glT gl0 nr0 l
theorem o0: @kN_ (G []) Tryz.prog:=v2_ gl0 nr0 Tryz.prog
def z4:AV:=.int .i64 1
def z9:AV:=.int .i64 2
def z5:AV:=.int .i64 0
def z6:AV:=.flt .f64 0
def z7:AV:=.int .i64 3
def z8:AV:=.int .i64 5
def z0:AV:=.agg [.vsl 7 10 [.str [97],z4,z9,z5,z9,z5,z6,z5,z5,z6,.str [98],z4,z4,z5,z4,z5,z6,z5,z5,z6,.str [111],z9,z9,z5,z9,z4,z6,z9,.int .i64 9,z6,.str [110],z7,z9,z5,z9,z5,z6,z5,z5,z6,.str [120],z7,z9,z5,z9,z5,z6,z5,z5,z6,.str [114],z7,z8,z5,z8,z5,z6,z5,z5,z6,.str [107],z7,z9,z7,z9,z5,z6,z5,z5,z6],.vsl 4 27 [z4,z9,z9,.str [110],.str [],z7,z5,z5,z5,z6,.nsl,.int .i64 4,z9,.str [],.str [],z5,z5,z5,z5,z6,.vsl 2 10 [z9,z9,.str [110],.str [],z7,z5,z5,z5,z6,.nsl,z4,z9,.str [],.str [],z5,z5,z9,z4,z6,.nsl],.nsl,.nsl,.str [],z5,z5,.nsl,z4,z9,z9,.str [111],.str [],z9,z5,z5,z5,z6,.nsl,.int .i64 4,z9,.str [],.str [],z5,z5,z5,z5,z6,.vsl 2 10 [z9,z9,.str [120],.str [],.int .i64 4,z5,z5,z5,z6,.nsl,z9,z9,.str [97],.str [],z5,z5,z5,z5,z6,.nsl],.nsl,.nsl,.str [],z5,z5,.nsl,z9,z5,z5,.str [],.str [],z5,z5,z5,z5,z6,.nsl,z9,z4,.str [98],.str [],z4,z5,z5,z5,z6,.nsl,.vsl 1 27 [z4,z7,z9,.str [107],.str [],.int .i64 6,z7,z5,z5,z6,.vsl 1 10 [z9,z9,.str [120],.str [],.int .i64 4,z5,z5,z5,z6,.nsl],z9,z9,.str [97],.str [],z5,z5,z5,z5,z6,.nsl,.nsl,.nsl,.str [],z5,z5,.nsl],.nsl,.str [],z5,z5,.nsl,z4,z9,z8,.str [114],.str [],z8,z5,z5,z5,z6,.nsl,.int .i64 4,z8,.str [],.str [],z5,z5,z5,z5,z6,.vsl 2 10 [z9,z8,.str [114],.str [],z8,z5,z5,z5,z6,.nsl,z4,z8,.str [],.str [],z5,z5,z8,z5,.flt .f64 4602678819172646912,.nsl],.nsl,.nsl,.str [],z5,z5,.nsl]]
def z1:AV:=.vsl 18 7 [z9,z5,z7,z5,z5,z5,z6,z4,z9,z5,z5,z9,z4,z6,.int .i64 4,z9,z5,z5,z5,z5,z6,.int .i64 18,z5,z7,z5,z5,z5,z6,z9,z5,.int .i64 4,z5,z5,z5,z6,z9,z5,z5,z5,z5,z5,z6,.int .i64 4,z9,z5,z5,z5,z5,z6,.int .i64 18,z5,z9,z5,z5,z5,z6,z9,z5,z4,z5,z5,z5,z6,.int .i64 21,z5,.int .i64 13,z5,z5,z5,z6,z9,z5,z5,z5,z5,z5,z6,z9,z5,.int .i64 4,z5,z5,z5,z6,.int .i64 19,z5,.int .i64 6,z7,z5,z5,z6,z9,z5,z8,z5,z5,z5,z6,z4,z8,z5,z5,z8,z5,.flt .f64 4602678819172646912,.int .i64 4,z8,z5,z5,z5,z5,z6,.int .i64 18,z5,z8,z5,z5,z5,z6,.int .i64 23,z5,z5,z5,z5,z5,z6]
def z2:AV:=.agg [.vsl 7 10 [.str [97],z4,z9,z5,z9,z5,z6,z5,z5,z6,.str [98],z4,z4,z5,z4,z5,z6,z5,z5,z6,.str [111],z9,z9,z5,z9,z4,z6,z9,.int .i64 9,z6,.str [110],z7,z9,z5,z9,z5,z6,z5,z5,z6,.str [120],z7,z9,z5,z9,z5,z6,z5,z5,z6,.str [114],z7,z8,z5,z8,z5,z6,z5,z5,z6,.str [107],z7,z9,z7,z9,z5,z6,z5,z5,z6],.vsl 4 27 [z4,z9,z5,.str [110],.str [],z5,z5,z5,z5,z6,.nsl,.int .i64 4,z5,.str [],.str [],z5,z5,z5,z5,z6,.vsl 2 10 [z9,z5,.str [110],.str [],z5,z5,z5,z5,z6,.nsl,z4,z5,.str [],.str [],z5,z5,z7,z4,z6,.nsl],.nsl,.nsl,.str [],z5,z5,.nsl,z4,z9,z5,.str [111],.str [],z5,z5,z5,z5,z6,.nsl,.int .i64 4,z5,.str [],.str [],z5,z5,z5,z5,z6,.vsl 2 10 [z9,z5,.str [120],.str [],z5,z5,z5,z5,z6,.nsl,z9,z5,.str [97],.str [],z5,z5,z5,z5,z6,.nsl],.nsl,.nsl,.str [],z5,z5,.nsl,z9,z5,z5,.str [],.str [],z5,z5,z5,z5,z6,.nsl,z9,z5,.str [98],.str [],z5,z5,z5,z5,z6,.nsl,.vsl 1 27 [z4,z7,z5,.str [107],.str [],z5,z5,z5,z5,z6,.vsl 1 10 [z9,z5,.str [120],.str [],z5,z5,z5,z5,z6,.nsl],z9,z5,.str [97],.str [],z5,z5,z5,z5,z6,.nsl,.nsl,.nsl,.str [],z5,z5,.nsl],.nsl,.str [],z5,z5,.nsl,z4,z9,z5,.str [114],.str [],z5,z5,z5,z5,z6,.nsl,.int .i64 4,z5,.str [],.str [],z5,z5,z5,z5,z6,.vsl 2 10 [z9,z5,.str [114],.str [],z5,z5,z5,z5,z6,.nsl,z4,z5,.str [],.str [],z5,z5,z8,z5,.flt .f64 4602678819172646912,.nsl],.nsl,.nsl,.str [],z5,z5,.nsl]]
def z3:AV:=.str [105,110,32,97,32,58,32,105,110,116,59,32,105,110,32,98,32,58,32,98,111,111,108,59,32,111,117,116,32,111,32,58,32,105,110,116,32,58,61,32,49,44,32,57,59,32,118,97,114,32,110,32,58,32,105,110,116,59,32,118,97,114,32,120,32,58,32,105,110,116,59,32,118,97,114,32,114,32,58,32,114,101,97,108,59,32,118,97,114,32,107,32,58,32,105,110,116,91,51,93,59,32,110,32,58,61,32,110,32,43,32,49,59,32,111,32,58,61,32,120,32,43,32,97,59,32,105,102,32,98,32,116,104,101,110,32,107,91,120,93,32,58,61,32,97,59,32,101,110,100,32,114,32,58,61,32,114,32,43,32,48,46,53,59]
def a0:List AV:=[]
def v0:AV:=z3
theorem e0: @ve_ (G []) Tryz.prog 3000 53 a0 v0=true:=by kernel_rfl
def l1:List (FuncId×List AV×AV):=(53,a0,v0)::[]
theorem o1: @kN_ (G l1) Tryz.prog:=vI_ o0 (@vF_ (G []) Tryz.prog mo o0 3000 53 a0 v0 e0)
def a1:List AV:=[z3]
def v1:AV:=.tup [.vsl 71 5 [z4,.str [105,110],z5,z6,z5,z4,.str [97],z5,z6,z7,z8,.str [58],z5,z6,z8,z4,.str [105,110,116],z5,z6,.int .i64 7,z8,.str [59],z5,z6,.int .i64 10,z4,.str [105,110],z5,z6,.int .i64 12,z4,.str [98],z5,z6,.int .i64 15,z8,.str [58],z5,z6,.int .i64 17,z4,.str [98,111,111,108],z5,z6,.int .i64 19,z8,.str [59],z5,z6,.int .i64 23,z4,.str [111,117,116],z5,z6,.int .i64 25,z4,.str [111],z5,z6,.int .i64 29,z8,.str [58],z5,z6,.int .i64 31,z4,.str [105,110,116],z5,z6,.int .i64 33,z8,.str [58,61],z5,z6,.int .i64 37,z9,.str [],z4,z6,.int .i64 40,z8,.str [44],z5,z6,.int .i64 41,z9,.str [],.int .i64 9,z6,.int .i64 43,z8,.str [59],z5,z6,.int .i64 44,z4,.str [118,97,114],z5,z6,.int .i64 46,z4,.str [110],z5,z6,.int .i64 50,z8,.str [58],z5,z6,.int .i64 52,z4,.str [105,110,116],z5,z6,.int .i64 54,z8,.str [59],z5,z6,.int .i64 57,z4,.str [118,97,114],z5,z6,.int .i64 59,z4,.str [120],z5,z6,.int .i64 63,z8,.str [58],z5,z6,.int .i64 65,z4,.str [105,110,116],z5,z6,.int .i64 67,z8,.str [59],z5,z6,.int .i64 70,z4,.str [118,97,114],z5,z6,.int .i64 72,z4,.str [114],z5,z6,.int .i64 76,z8,.str [58],z5,z6,.int .i64 78,z4,.str [114,101,97,108],z5,z6,.int .i64 80,z8,.str [59],z5,z6,.int .i64 84,z4,.str [118,97,114],z5,z6,.int .i64 86,z4,.str [107],z5,z6,.int .i64 90,z8,.str [58],z5,z6,.int .i64 92,z4,.str [105,110,116],z5,z6,.int .i64 94,z8,.str [91],z5,z6,.int .i64 97,z9,.str [],z7,z6,.int .i64 98,z8,.str [93],z5,z6,.int .i64 99,z8,.str [59],z5,z6,.int .i64 100,z4,.str [110],z5,z6,.int .i64 102,z8,.str [58,61],z5,z6,.int .i64 104,z4,.str [110],z5,z6,.int .i64 107,z8,.str [43],z5,z6,.int .i64 109,z9,.str [],z4,z6,.int .i64 111,z8,.str [59],z5,z6,.int .i64 112,z4,.str [111],z5,z6,.int .i64 114,z8,.str [58,61],z5,z6,.int .i64 116,z4,.str [120],z5,z6,.int .i64 119,z8,.str [43],z5,z6,.int .i64 121,z4,.str [97],z5,z6,.int .i64 123,z8,.str [59],z5,z6,.int .i64 124,z4,.str [105,102],z5,z6,.int .i64 126,z4,.str [98],z5,z6,.int .i64 129,z4,.str [116,104,101,110],z5,z6,.int .i64 131,z4,.str [107],z5,z6,.int .i64 136,z8,.str [91],z5,z6,.int .i64 137,z4,.str [120],z5,z6,.int .i64 138,z8,.str [93],z5,z6,.int .i64 139,z8,.str [58,61],z5,z6,.int .i64 141,z4,.str [97],z5,z6,.int .i64 144,z8,.str [59],z5,z6,.int .i64 145,z4,.str [101,110,100],z5,z6,.int .i64 147,z4,.str [114],z5,z6,.int .i64 151,z8,.str [58,61],z5,z6,.int .i64 153,z4,.str [114],z5,z6,.int .i64 156,z8,.str [43],z5,z6,.int .i64 158,z7,.str [],z5,.flt .f64 4602678819172646912,.int .i64 160,z8,.str [59],z5,z6,.int .i64 163],z5,.bool true]
theorem e1: @ve_ (G l1) Tryz.prog 3000 91 a1 v1=true:=by kernel_rfl
def l2:List (FuncId×List AV×AV):=(91,a1,v1)::l1
theorem o2: @kN_ (G l2) Tryz.prog:=vI_ o1 (@vF_ (G l1) Tryz.prog mo o1 3000 91 a1 v1 e1)
def a2:List AV:=[z3]
def v2:AV:=.tup [z2,z5,.bool true]
theorem e2: @ve_ (G l2) Tryz.prog 3000 52 a2 v2=true:=by kernel_rfl
def l3:List (FuncId×List AV×AV):=(52,a2,v2)::l2
theorem o3: @kN_ (G l3) Tryz.prog:=vI_ o2 (@vF_ (G l2) Tryz.prog mo o2 3000 52 a2 v2 e2)
def a3:List AV:=[z2]
def v3:AV:=.tup [z0,z5]
theorem e3: @ve_ (G l3) Tryz.prog 3000 23 a3 v3=true:=by kernel_rfl
def l4:List (FuncId×List AV×AV):=(23,a3,v3)::l3
theorem o4: @kN_ (G l4) Tryz.prog:=vI_ o3 (@vF_ (G l3) Tryz.prog mo o3 3000 23 a3 v3 e3)
def a4:List AV:=[z0]
def v4:AV:=.tup [z1,z5]
theorem e4: @ve_ (G l4) Tryz.prog 3000 9 a4 v4=true:=by kernel_rfl
def l5:List (FuncId×List AV×AV):=(9,a4,v4)::l4
theorem o5: @kN_ (G l5) Tryz.prog:=vI_ o4 (@vF_ (G l4) Tryz.prog mo o4 3000 9 a4 v4 e4)
def a5:List AV:=[]
def v5:AV:=.tup [z0,z1]
theorem e5: @ve_ (G l5) Tryz.prog 3000 22 a5 v5=true:=by kernel_rfl
def l6:List (FuncId×List AV×AV):=(22,a5,v5)::l5
theorem o6: @kN_ (G l6) Tryz.prog:=vI_ o5 (@vF_ (G l5) Tryz.prog mo o5 3000 22 a5 v5 e5)
def a6:List AV:=[z0,z1,.int .i64 100]
def v6:AV:=.tup [.agg [.vsl 7 10 [.str [97],z4,z9,z5,z9,z5,z6,z5,z5,z6,.str [98],z4,z4,z5,z4,z5,z6,z5,z5,z6,.str [111],z9,z9,z5,z9,z4,z6,z9,.int .i64 9,z6,.str [110],z7,z9,z5,z9,z5,z6,z5,z5,z6,.str [120],z7,z9,z5,z9,z5,z6,z5,z5,z6,.str [114],z7,z8,z5,z8,z5,z6,z5,z5,z6,.str [107],z7,z9,z7,z9,z5,z6,z5,z5,z6],z1,.int .i64 100,.vsl 9 3 [z9,z5,z6,z4,z5,z6,z9,z4,z6,z9,z5,z6,z9,z5,z6,z8,z5,z6,z9,z5,z6,z9,z5,z6,z9,z5,z6],z5,.nsl,.nsl,z5,z5,.bool true,z5,z5,z5],z5]
theorem e6: @ve_ (G l6) Tryz.prog 3000 10 a6 v6=true:=by kernel_rfl
def l7:List (FuncId×List AV×AV):=(10,a6,v6)::l6
theorem o7: @kN_ (G l7) Tryz.prog:=vI_ o6 (@vF_ (G l6) Tryz.prog mo o6 3000 10 a6 v6 e6)
theorem eb: @ve_ (G l7) Tryz.prog 3000 7 [] (.bool true)=true:=by kernel_rfl
end Beg
theorem k7:jD_ Tryz.prog 7 [] (.bool true):= @vF_ (Beg.G Beg.l7) Tryz.prog mo Beg.o7 3000 7 [] (.bool true) Beg.eb
end Go.Proofs.YtelnbodnjmldeaaGreat.vars
