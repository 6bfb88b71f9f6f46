/-
  The machine: copies, blocks, an instruction.
-/
import Derived.Test.YtelnbodnjmldeaaGreatWI
import Derived.Test.YtelnbodnjmldeaaGreatFA
import Derived.Test.YtelnbodnjmldeaaGreatXB
import Derived.Test.YtelnbodnjmldeaaGreatV4
import Derived.Test.YtelnbodnjmldeaaGreatSyS
set_option maxRecDepth 100000
set_option linter.unusedVariables false
set_option linter.unusedSimpArgs false
namespace Go.Proofs.YtelnbodnjmldeaaGreat.vars
open Go Go.Sx
def zi_:VC:=⟨⟨[],[]⟩,[],[],0,true,[]⟩
def yp_:VT:=It Zf [64,64] 65 (.done (.int .u64 9221120237041090561))<|Li (.ext 159) [64] 66<|.done (66)
def c89:VC:=⟨⟨[],[]⟩,[(119,[none])],[],0,true,[]⟩
def t89:VT:=.call 119 [64] 66 [none]<|.call 119 [65] 67 [none]<|Li (.bin .eql 182 false false) [66,67] 68<|.done (68)
def c48:VC:=⟨⟨[],[]⟩,[(89,[none])],[],0,true,[]⟩
def t48:VT:=It Q9 [64,67] 70 (It Qq [65,68] 71 (.call 89 [66,69] 72 [none]<|.done (72))<|.done (.bool false))<|.done (.bool false)
def AN_:VC:=⟨⟨[],[]⟩,[(74,[none]),(119,[none]),(130,[none])],[],0,true,[]⟩
def z8_:VT:=Iq 64 5 67 (Li Qt [65,J 0] 68<|.done (68))<|.call 74 [64] 68 [none]<|Iq 68 1 69 (.call 119 [66] 70 [none]<|It Ui [70,.int .u64 0] 71 (.call 130 [64,65] 72 [none]<|Li Qq [72,65] 73<|.done (73))<|.done (.bool false))<|.done (.bool false)
def zh_:Option Nat->Int
 |none=>9221120237041090561
 |some n=>if nM_ n=true then 9221120237041090561 else (n:Int)
theorem y0_ (n:Nat):(XOp.ext 159).run Tryz.prog [.flt .f64 n]=some (.int .u64 (n:Int)):=by kernel_rfl
theorem zO_ (o:Option Nat):jw_ Tryz.prog 119 [fv o] (.int .u64 (zh_ o)):=by
 refine t0_ (sh:=[none]) (ls:=[fv o]) (c:=zi_) (n:=300) (t:=yp_) mo ov rfl (Bb_ o) rfl (λY _=>vu_ _) rfl (by kernel_rfl) λY hf hg=>?_;unfold yp_;refine VOK_lt (xW_ ..) rfl (u8_ rfl (λh=>?_) (λh=>?_))
 .rw [wW_]at h;refine uw_ ?_;cases o with
  |none=>rfl
  |some n=>show AV.int _ _=AV.int _ (if nM_ n=true then 9221120237041090561 else (n:Int));exact congrArg (AV.int .u64) (if_pos h).symm
 .rw [wW_]at h;cases o with
  |none=>cases h
  |some n=>refine VOK_lt (y0_ n) rfl (uw_ ?_);show AV.int _ _=AV.int _ (if nM_ n=true then 9221120237041090561 else (n:Int));rw [if_neg (by rw [show nM_ n=false from h];exact Bool.false_ne_true)]
theorem p89 (o:Option Nat):jw_ Tryz.prog 89 [fv o,fv o] (.bool true):=by refine t0_ (sh:=[none,none]) (ls:=[fv o,fv o]) (c:=c89) (n:=300) (t:=t89) mo ov rfl (by simp only [okL,vG_]) rfl (λY _=>vu_ _) rfl (by kernel_rfl) λY hf hg=>?_;unfold t89;exact uv_ (zO_ o) rfl rfl (uv_ (zO_ o) rfl rfl (VOK_lt (run_eql ..) rfl (uw_ (congrArg AV.bool (decide_eq_true rfl)))))
theorem p48 (v:FV):jw_ Tryz.prog 48 [.agg (oH_ v),.agg (oH_ v)] (.bool true):=by
 refine t0_ (sh:=[some 3,some 3]) (ls:=oH_ v++oH_ v) (c:=c48) (n:=300) (t:=t48) mo ov rfl (kP_.okL_join (okV v) (okV v)) rfl (λY _=>vu_ _) rfl (by kernel_rfl) λY hf hg=>?_;unfold t48
 (refine b_ rfl rfl ?_ ?_<;>intro h<;>simp only [nc]at h<;>try omega)
 (refine b_ rfl rfl ?_ ?_<;>intro h<;>simp only [nc]at h<;>try omega)
 exact uv_ (p89 v.f) rfl rfl (uw_ rfl)
def c19:VC:=⟨⟨[],[]⟩,[(48,[none])],[(0,[⟨[(5,.slx 0 0 0),(1,65),(0,64)],[],0,1,[],[],[]⟩])],0,true,[]⟩
def t19:VT:=Li Qz [64] 66<|Li Qz [65] 67<|It Qd [66,67] 68 (.done (.bool false))<|.loop 69 0 [J 0] (.cons 1 (Li Qz [64] 70<|It Q5 [69,70] 71 (Li Qw [64,69] 72<|.lt Zc [72] 73 (some 3)<|Li Qw [65,69] 76<|.lt Zc [76] 77 (some 3)<|.call 48 [.agg [73,74,75],.agg [77,78,79]] 80 [none]<|It Q6 [80] 81 (.done (.bool false))<|Li Q3 [69,J 1] 82<|.again 0 0 [82])<|.done (.bool true)) .nil)
theorem p19 {l:List FV} (hl:l.length<=1000):jw_ Tryz.prog 19 [D_ l,D_ l] (.bool true):=by
 refine t0_ (sh:=[none,none]) (ls:=[D_ l,D_ l]) (c:=c19) (n:=300) (t:=t19) mo ov rfl (by simp only [okL,wB_]) rfl (λY _=>vu_ _) rfl (by kernel_rfl) λY hf hg=>?_;unfold t19;refine VOK_lt (vl_ l) rfl (VOK_lt (vl_ l) rfl ?_)
 (refine b_ rfl rfl ?_ ?_<;>intro h<;>simp only [nc]at h<;>try omega)
 refine ux_ (ι:=Nat) (λi=>[.int .i64 (i:Int)]) (λi=>i<=l.length) (λi=>l.length-i) 0 (Nat.zero_le _) rfl (λ_ _=>rfl) (λs s' _ _ h=>by simp at h;omega) (λi hi=>?_);refine VOK_lt (vl_ l) rfl ?_
 (refine b_ rfl rfl ?_ ?_<;>intro h<;>simp only [nc]at h<;>try omega)
 have hi:i<l.length:=(by omega);refine VOK_lt (vV_ l hi) (kP_ okV _) (u9_ (uG_ l hi) rfl (okV _) ?_);refine VOK_lt (vV_ l hi) (kP_ okV _) (u9_ (uG_ l hi) rfl (okV _) ?_);refine uv_ (p48 l[i]) rfl rfl (VOK_lt (r:=.bool false) rfl rfl (u8_ (t:=false) rfl (λh=>by cases h) (λ_=>?_)));exact VOK_lt (p_ (by omega) (by omega)) rfl (ul_ rfl ⟨i+1,hi,rfl,by omega⟩);exact uw_ rfl
def c38:VC:=⟨⟨[],[]⟩,[(19,[none])],[],0,true,[]⟩
def t38:VT:=It Q9 [64,71] 78 (It Q9 [67,74] 79 (It Qq [68,75] 80 (It G5 [69,76] 81 (It Zv [70,77] 82 (.call 19 [65,72] 83 [none]<|.ite 83 (.call 19 [66,73] 84 [none]<|.done (84))<|.done (.bool false))<|.done (.bool false))<|.done (.bool false))<|.done (.bool false))<|.done (.bool false))<|.done (.bool false)
theorem zS_ {l:List FV} {x y:AV} (hx:St l x) (hy:St l y) (hl:l.length<=1000):jw_ Tryz.prog 19 [x,y] (.bool true):=by
 refine t0_ (sh:=[none,none]) (ls:=[x,y]) (c:=c19) (n:=300) (t:=t19) mo ov rfl (by simp only [okL,St.okC hx,St.okC hy]) rfl (λY _=>vu_ _) rfl (by kernel_rfl) λY hf hg=>?_;unfold t19;refine VOK_lt (hx.len Tryz.underlying34) rfl (VOK_lt (hy.len Tryz.underlying34) rfl ?_)
 (refine b_ rfl rfl ?_ ?_<;>intro h<;>simp only [nc]at h<;>try omega)
 refine ux_ (ι:=Nat) (λi=>[.int .i64 (i:Int)]) (λi=>i<=l.length) (λi=>l.length-i) 0 (Nat.zero_le _) rfl (λ_ _=>rfl) (λs s' _ _ h=>by simp at h;omega) (λi hi=>?_);refine VOK_lt (hx.len Tryz.underlying34) rfl ?_
 (refine b_ rfl rfl ?_ ?_<;>intro h<;>simp only [nc]at h<;>try omega)
 have hi:i<l.length:=(by omega);have hne:l≠[]:=λe=>(by rw [e]at hi;simp at hi);have ex:x=D_ l:=hx.eq hne;have ey:y=D_ l:=hy.eq hne;have hix:=vV_ l hi;have hiy:=hix;rw [←ex]at hix;rw [←ey]at hiy;refine VOK_lt hix (kP_ okV _) (u9_ (uG_ l hi) rfl (okV _) ?_);refine VOK_lt hiy (kP_ okV _) (u9_ (uG_ l hi) rfl (okV _) ?_);refine uv_ (p48 l[i]) rfl rfl (VOK_lt (r:=.bool false) rfl rfl (u8_ (t:=false) rfl (λh=>by cases h) (λ_=>?_)));exact VOK_lt (p_ (by omega) (by omega)) rfl (ul_ rfl ⟨i+1,hi,rfl,by omega⟩);exact uw_ rfl
theorem p38 {m:MS} {x y:AV} (hx:St m.st x) (hy:St m.st y) (hl:m.st.length<=1000) (hm:m.mem.length<=1000):jw_ Tryz.prog 38 [.agg (KR m x),.agg (KR m y)] (.bool true):=by
 have h1:=zS_ hx hy hl;have h2:=p19 hm;refine t0_ (sh:=[some 7,some 7]) (ls:=KR m x++KR m y) (c:=c38) (n:=300) (t:=t38) mo ov rfl (Bd_ m (St.okC hx) (zF_ m (St.okC hy))) rfl (λY _=>vu_ _) rfl (by kernel_rfl) λY hf hg=>?_;unfold t38
 (refine b_ rfl rfl ?_ ?_<;>intro h<;>simp only [nc]at h<;>try omega)
 (refine b_ rfl rfl ?_ ?_<;>intro h<;>simp only [nc]at h<;>try omega)
 (refine b_ rfl rfl ?_ ?_<;>intro h<;>simp only [nc]at h<;>try omega)
 refine VOK_lt (r:=.bool true) (by show (XOp.bin .eql 4 false false).run Tryz.prog [.bool m.over,.bool m.over]=_;cases m.over<;>rfl) rfl (u8_ (t:=true) rfl (λ_=>?_) (λh=>by cases h))
 (refine b_ rfl rfl ?_ ?_<;>intro h<;>simp only [nc]at h<;>try omega)
 exact uv_ h1 rfl rfl (u8_ (t:=true) rfl (λ_=>uv_ h2 rfl rfl (uw_ rfl)) (λh=>by cases h))
theorem J_ (l:List GI) (i:GI) (hl:l.length<=1000000):(XOp.app 7 56).run Tryz.prog [h_ l,.agg (g_ i)]=some (h_ (l++[i])):=t3_ ww_ (by decide) (by decide) l i (by omega)
theorem F_ (l:List GI):(XOp.len 30).run Tryz.prog [h_ l]=some (.int .i64 (l.length:Int)):=t5_ Tryz.underlying30 l
def R24 (l:List GI):Nat->List AV->Prop:=λ_ ws=>ws=[h_ l]
theorem wR_ (l:List GI):okL [h_ l]=true:=by simp only [okL,okI]
theorem x0_ (l:List GI) {i:Nat} (hi:i<l.length) (a:Int) (k:IntKind):(XOp.stx 3 7 2).run Tryz.prog [h_ l,.int k (i:Int),.int .i64 a]=some (h_ (l.set i { l[i]with ad:=a })):=
 run_stx (ti:=(Tryz.prog.info? 3).get!) ww_ hi (p:=[.int .i64 l[i].op,.int .i64 l[i].kd]) (q:=[.int .i64 l[i].ad]) (r:=[.int .i64 l[i].n,.int .i64 l[i].vk,.int .i64 l[i].vi,.flt .f64 l[i].vf]) (xs:=[.int .i64 a]) rfl (.inr ⟨_,_,rfl⟩) (by kernel_rfl) (by kernel_rfl) rfl rfl rfl rfl rfl k
theorem yo_ {α:Type} (a:List α) (x y:α) (b:List α):(a++([x]++b)).set a.length y=a++([y]++b):=by rw [List.set_append_right _ _ (Nat.le_refl _),Nat.sub_self];rfl
theorem yc_ {α:Type} (a:List α) (x:α) (b:List α) (h:a.length<(a++([x]++b)).length):(a++([x]++b))[a.length]=x:=by rw [List.getElem_append_right (Nat.le_refl _)];simp
theorem uE_ (a:List GI) (op:Int) (b:List GI) (t:Int):(XOp.stx 3 7 2).run Tryz.prog [h_ (a++([w_ op 0 0 0]++b)),.int .i64 (a.length:Int),.int .i64 t]=some (h_ (a++([w_ op 0 t 0]++b))):=by
 have h:a.length<(a++([w_ op 0 0 0]++b)).length:=by simp
 rw [x0_ _ h t .i64,yc_,yo_];rfl
theorem vF_ {Y:Sy} {i j:Nat} {l l':List GI} (h1:Y.v i=some (h_ l)) (h2:Y.v j=some (h_ l')) (h:l.length=l'.length):(Chk.same i j).ok Y:=by
 cases l with
 |nil=>
  cases l' with
  |nil=>exact .inl ⟨h1,h2⟩
  |cons a r=>simp at h
 |cons a r=>
  cases l' with
  |nil=>simp at h
  |cons b q=>have e:r.length=q.length:=(by simpa using h);exact .inr ⟨r.length+1,7,_,_,h1,by rw [h2];show some (AV.vsl (q.length+1) 7 _)=_;rw [e]⟩
theorem Bc_ (l:List GI) (x:GS):okL (h_ l::Y_ x)=true:=by rw [aX_,okI];exact okS x
theorem zE_ (l:List GI) (x:List GS):okL [h_ l,H_ x]=true:=by rw [aX_,okI];simp only [okL,okB];rfl
theorem u6_:∀(b:Nat) (x y:List GS),m_ b (x++y)=m_ b x++m_ (b+(m_ b x).length) y
 |b,[],y=>by simp [m_]
 |b,s::x,y=>by simp only [List.cons_append,m_,u6_ _ x y,List.append_assoc,List.length_append,Nat.add_assoc]
theorem wN_ (b:Nat) (x:List GS) {i:Nat} (hi:i<x.length):m_ b (x.take (i+1))=m_ b (x.take i)++sY_ (b+(m_ b (x.take i)).length) x[i]:=by rw [List.take_succ_eq_append_getElem hi,u6_];simp only [m_,List.append_nil]
theorem xE_ (b:Nat) (x:List GS) (i:Nat):(m_ b (x.take i)).length<=(m_ b x).length:=by have:=congrArg List.length (u6_ b (x.take i) (x.drop i));rw [List.take_append_drop,List.length_append]at this;omega
def c99:VC:=⟨⟨[],[]⟩,[(99,[none])],[(1,[⟨[(4,.slx 0 0 0),(1,.ptr 0 0),(3,.slx 1 7 1)],[(0,[64,65,66,67,68,69,70,71,72,73])],2,2,[⟨1,7,1,3,none⟩],[],[]⟩])],0,true,[]⟩
def t99:VT:=Iq 64 1 74 (.done (.vsl 1 7 [J 1,70,J 0,J 0,70,71,72]))<|Iq 64 2 75 (.done (.vsl 1 7 [J 2,J 0,68,J 0,J 0,J 0,.flt .f64 0]))<|.loop 76 0 [J 0,.nsl] (.cons 2 (Li Qh [73] 78<|It Q5 [76,78] 79 (Li Qg [73,76] 80<|.lt Qm [80] 81 (some 10)<|.call 99 [.agg [81,82,83,84,85,86,87,88,89,90]] 91 [none]<|Li Qs [77,91] 92<|Li Q3 [76,J 1] 93<|.again 0 0 [93,92])<|Iq 64 3 80 (Li Qs [77,.agg [J 3,J 0,68,69,J 0,J 0,.flt .f64 0]] 81<|.done (81))<|Iq 64 17 81 (Li Qg [73,J 0] 82<|Li Ze [82] 83<|Li Qn [83] 84<|Li Qs [77,.agg [J 17,65,J 0,84,J 0,J 0,.flt .f64 0]] 85<|.done (85))<|Li Qg [73,J 0] 82<|Li Ze [82] 83<|Li Qn [83] 84<|Li Qs [77,.agg [64,84,J 0,J 0,J 0,J 0,.flt .f64 0]] 85<|.done (85)) .nil)
def c56:VC:=⟨⟨[],[]⟩,[(99,[none])],[(1,[⟨[(6,.slx 0 0 0),(3,.ptr 1 0),(0,.slx 2 7 1)],[(1,[65,66,67,68,69,70,71,72,73,74,75,76,77,78,79,80,81,82,83,84,85,86,87,88,89,90,91])],3,2,[⟨2,7,1,0,none⟩],[],[]⟩])],0,true,[(25,ft25)]⟩
def t56:VT:=Li Qi [64] 92<|Iq 65 1 93 (.call 99 [.agg [76,77,78,79,80,81,82,83,84,85]] 94 [none]<|Li Qs [64,94] 95<|Iq 66 3 96 (Li Qg [75,J 0] 97<|.lt Qm [97] 98 (some 10)<|.call 99 [.agg [98,99,100,101,102,103,104,105,106,107]] 108 [none]<|.chk (.pos 108)<|Li Qs [95,108] 109<|Li Qs [109,.vsl 1 7 [J 19,J 0,70,71,J 0,J 0,.flt .f64 0]] 110<|Dn [110])<|Li Qs [95,.agg [J 18,J 0,70,J 0,J 0,J 0,.flt .f64 0]] 97<|Dn [97])<|Iq 65 4 94 (.loop 95 0 [J 0,64] (.cons 2 (Li Qh [91] 97<|It Q5 [95,97] 98 (Li Qg [91,95] 99<|.lt Qm [99] 100 (some 10)<|.call 99 [.agg [100,101,102,103,104,105,106,107,108,109]] 110 [none]<|Li Qs [96,110] 111<|Li Q3 [95,J 1] 112<|.again 0 0 [112,111])<|Li Qh [91] 99<|Li Qs [96,.agg [J 22,89,90,99,J 0,J 0,.flt .f64 0]] 100<|Dn [100]) .nil))<|.call 99 [.agg [76,77,78,79,80,81,82,83,84,85]] 95 [none]<|Li Qs [64,95] 96<|Li Qi [96] 97<|Li Qs [96,.agg [J 21,J 0,J 0,J 0,J 0,J 0,.flt .f64 0]] 98<|Cf 25 ft25 [98,86] 99 1<|Iq 65 3 102 (Li Qs [101,.agg [J 20,J 0,92,J 0,J 0,J 0,.flt .f64 0]] 103<|Li Qi [103] 104<|Li Q2 [103,97] 105<|Li U3 [103,105,104] 106<|.chk (.same 103 106)<|Dn [106])<|Li Zs [87] 103<|Iq 103 0 104 (Li Qi [101] 105<|Li Q2 [101,97] 106<|Li U3 [101,106,105] 107<|.chk (.same 101 107)<|Dn [107])<|Li Qi [101] 105<|Li Qs [101,.agg [J 20,J 0,J 0,J 0,J 0,J 0,.flt .f64 0]] 106<|Li Qi [106] 107<|Li Q2 [106,97] 108<|Li U3 [106,108,107] 109<|.chk (.same 106 109)<|Cf 25 ft25 [109,87] 110 1<|Li Qi [112] 113<|Li Q2 [112,105] 114<|Li U3 [112,114,113] 115<|.chk (.same 112 115)<|Dn [115]
def c25:VC:=⟨⟨[],[]⟩,[],[(0,[⟨[(5,.slx 0 0 0),(1,65),(0,.slx 0 7 1)],[],1,2,[⟨0,7,1,0,none⟩],[],[]⟩])],0,true,[(56,ft56)]⟩
def t25:VT:=.loop 66 0 [J 0,64] (.cons 2 (Li Zs [65] 68<|It Q5 [66,68] 69 (Li U4 [65,66] 70<|.lt U5 [70] 71 (some 27)<|Cf 56 ft56 [67,71,72,73,74,75,76,77,78,79,80,81,82,83,84,85,86,87,88,89,90,91,92,93,94,95,96,97] 98 1<|Li Q3 [66,J 1] 127<|.again 0 0 [127,126])<|Dn [67]) .nil)
def c9:VC:=⟨⟨[],[]⟩,[],[],0,true,[(25,ft25)]⟩
def t9:VT:=Cf 25 ft25 [.nsl,65] 66 1<|Li Qs [68,.agg [J 23,J 0,J 0,J 0,J 0,J 0,.flt .f64 0]] 69<|Li Qi [69] 70<|It Qb [70,J 400] 71 (.done (.tup [.nsl,J 12]))<|.done (.tup [69,J 0])
theorem xV_ (l:List GI) (i:GI) (hl:l.length<=1000000):(XOp.app 7 56).run Tryz.prog [h_ l,.vsl 1 7 (g_ i)]=some (h_ (l++[i])):=ty_ (enc:=g_) ww_ (by decide) (by decide) l [i] (by simp only [List.length_cons,List.length_nil];omega)
theorem qh_ (l q:List GI) (hl:l.length+q.length<=1000000):(XOp.app 7 56).run Tryz.prog [h_ l,h_ q]=some (h_ (l++q)):=ty_ ww_ (by decide) (by decide) l q (by omega)
theorem p99:∀(d:Nat) (x:GX),d<=10->TX d x->jw_ Tryz.prog 99 [.agg (q_ x)] (h_ (N_ x))
 |0,_,_,h=>h.elim
 |d+1,.mk op kd nm fd ad n vk vi vf args,hd,hx=>by
  have hge:=uk_ hx;have hp:2^(d+1)<=2^10:=Nat.pow_le_pow_right (by decide) hd;have hgl:(N_ (.mk op kd nm fd ad n vk vi vf args)).length=(n_ args).length+1:=(by simp only [N_,List.length_append,List.length_cons,List.length_nil]);obtain ⟨h1,_,_,_,_,h6⟩:=hx;have hal:args.length<=2:=(by unfold Ari at h1;omega);have hE:∀i,(n_ (args.take i)).length<=(n_ args).length:=λi=>(by have:=congrArg List.length (em_ (args.take i) (args.drop i));rw [List.take_append_drop,List.length_append]at this;omega);refine t0_ (sh:=[some 10]) (ls:=q_ (.mk op kd nm fd ad n vk vi vf args)) (c:=c99) (n:=300) (t:=t99) mo ov rfl (okX _) (pZ_ (okI _)) (λY _=>vu_ _) rfl (by kernel_rfl) λY hf hg=>?_;unfold t99
  (refine b_ rfl rfl ?_ ?_<;>intro h<;>simp only [nc]at h<;>try omega)
  .obtain rfl:args=[]:=by
     cases args with
     |nil=>rfl
     |cons a r=>unfold Ari at h1;simp only [List.length_cons]at h1;omega
   subst h;exact uw_ rfl
  (refine b_ rfl rfl ?_ ?_<;>intro h<;>simp only [nc]at h<;>try omega)
  .obtain rfl:args=[]:=by
     cases args with
     |nil=>rfl
     |cons a r=>unfold Ari at h1;simp only [List.length_cons]at h1;omega
   subst h;exact uw_ rfl
  refine ux_ (ι:=Nat) (λi=>[.int .i64 (i:Int),h_ (n_ (args.take i))]) (λi=>i<=args.length) (λi=>args.length-i) 0 (Nat.zero_le _) (by simp [n_];rfl) (λi _=>by simp only [okL,okC,okI]) (λi j _ _ h=>by simp at h;omega) (λi hi=>?_);refine VOK_lt (t_ args) rfl ?_
  (refine b_ rfl rfl ?_ ?_<;>intro h<;>simp only [nc]at h<;>try omega)
  have hi:i<args.length:=(by omega);have hld:=R_ args hi;have hg:n_ (args.take (i+1))=n_ (args.take i)++N_ args[i]:=(by rw [List.take_succ_eq_append_getElem hi,em_];simp only [n_,List.append_nil]);have hz:=p99 d args[i] (by omega) (h6 _ (List.getElem_mem hi));have hl:(n_ (args.take i)).length+(N_ args[i]).length<=1000000:=(by have:=hE (i+1);rw [hg,List.length_append]at this;omega);rcases hzz:args[i]with ⟨zo,zk,znm,zfd,zad,zn,zvk,zvi,zvf,za⟩;rw [hzz]at hld hz hg hl;refine VOK_lt (Q_ args hi) (kP_ okX _) (u9_ hld rfl (okX _) (uv_ hz rfl (by simp only [okL,okI]) (VOK_lt (qh_ _ _ hl) (okI _) ?_)));exact VOK_lt (p_ (by omega) (by omega)) rfl (ul_ rfl ⟨i+1,hi,by rw [hg];rfl,by omega⟩);have hi:i=args.length:=(by omega);subst hi;rw [List.take_length];have hlen:(n_ args).length<=1000000:=(by omega);have fin:∀i:GI,wv_ op kd ad n vk vi vf args=i->h_ (n_ args++[i])=h_ (N_ (.mk op kd nm fd ad n vk vi vf args)):=λi hi=>by simp only [N_,hi]
  (refine b_ rfl rfl ?_ ?_<;>intro h<;>simp only [nc]at h<;>try omega)
  exact VOK_lt (J_ _ (w_ 3 0 ad n) hlen) (okI _) (uw_ (fin _ (by unfold wv_;rw [if_neg (by omega),if_neg (by omega),if_pos h])));have h0:1<=args.length:=(by unfold Ari at h1;omega);obtain ⟨y,r,rfl⟩:∃y r,args=y::r:=by
   cases args with
   |nil=>simp at h0
   |cons y r=>exact ⟨y,r,rfl⟩
  obtain ⟨y1,y2,y3,y4,y5,y6,y7,y8,y9,y10⟩:=y
  (refine b_ rfl rfl ?_ ?_<;>intro h<;>simp only [nc]at h<;>try omega)
  refine VOK_lt (r:=.vptr (q_ (.mk y1 y2 y3 y4 y5 y6 y7 y8 y9 y10)++nb_ r)) rfl (by show okL _=true;exact kP_.okL_join (okX _) (wC_ _)) ?_;refine VOK_lt (r:=.vptr ([.int .i64 y2,.str y3,.str y4,.int .i64 y5,.int .i64 y6,.int .i64 y7,.int .i64 y8,.flt .f64 y9,K_ y10]++nb_ r)) rfl (by show okL _=true;exact kP_.okL_join (by simp only [okC,okL,okA]) (wC_ _)) (VOK_lt (r:=.int .i64 y2) rfl rfl ?_);exact VOK_lt (J_ _ (w_ 17 kd 0 y2) hlen) (okI _) (uw_ (fin _ (by unfold wv_;rw [if_neg (by omega),if_neg (by omega),if_neg (by omega),if_pos (by assumption)];rfl)));refine VOK_lt (r:=.vptr (q_ (.mk y1 y2 y3 y4 y5 y6 y7 y8 y9 y10)++nb_ r)) rfl (by show okL _=true;exact kP_.okL_join (okX _) (wC_ _)) ?_;refine VOK_lt (r:=.vptr ([.int .i64 y2,.str y3,.str y4,.int .i64 y5,.int .i64 y6,.int .i64 y7,.int .i64 y8,.flt .f64 y9,K_ y10]++nb_ r)) rfl (by show okL _=true;exact kP_.okL_join (by simp only [okC,okL,okA]) (wC_ _)) (VOK_lt (r:=.int .i64 y2) rfl rfl ?_);exact VOK_lt (J_ _ (w_ op y2 0 0) hlen) (okI _) (uw_ (fin _ (by unfold wv_;rw [if_neg (by omega),if_neg (by omega),if_neg (by omega),if_neg (by assumption)];rfl)))
theorem yZ_ {x:GX} (h:TX 5 x):jw_ Tryz.prog 99 [.agg (q_ x)] (h_ (N_ x)):=p99 5 x (by decide) h
theorem zd_ {Y:Sy} {i:Nat} {l:List GI} (h:Y.v i=some (h_ l)) (hl:0<l.length):(Chk.pos i).ok Y:=by
 cases l with
 |nil=>simp at hl
 |cons a r=>exact ⟨_,_,_,h⟩
theorem xC_ (x:GX):0<(N_ x).length:=by cases x;simp [N_]
def P23 (d:Nat):Prop:=∀(x:List GS) (l:List GI),x.length<=5->(∀s∈x,TS d s)->l.length+(m_ l.length x).length<=900000->CF Tryz.prog 25 ft25 [h_ l,H_ x] (R24 (l++m_ l.length x))
theorem p56 (d:Nat) (hT:∀e,d=e+1->P23 e):∀(s:GS) (l:List GI),TS d s->l.length+(sY_ l.length s).length<=900000->CF Tryz.prog 56 ft56 (h_ l::Y_ s) (R24 (l++sY_ l.length s)):=by
 intro s l hs hl;rcases d with _|d;exact hs.elim;have hT:=hT d rfl;obtain ⟨op,to,e,thn,els,nm,kd,ad,args⟩:=s;obtain ⟨gl,hgl⟩:∃gl,gl=sY_ l.length (.mk op to e thn els nm kd ad args):=⟨_,rfl⟩;rw [←hgl]at hl⊢;obtain ⟨c,hc⟩:∃c,c=N_ e:=⟨_,rfl⟩;obtain ⟨to1,to2,to3,to4,to5,to6,to7,to8,to9,to10⟩:=to;obtain ⟨e1,e2,e3,e4,e5,e6,e7,e8,e9,e10⟩:=e;refine va_ (c:=c56) (n:=300) (t:=t56) mo ov rfl (λY _=>vu_ _) (by kernel_rfl) λY hf hg=>?_;unfold t56;refine VOK_lt (F_ _) rfl ?_;rcases hs with ⟨rfl,a1,a2,a3,a4,_⟩|⟨ho,b1,b2,b3,b4,b5,b6⟩|⟨rfl,c1,c2,_⟩
 .have hk:=p99 6 _ (by decide) a3;rw [←hc]at hk;have hgen:gl=c++wt_ (.mk to1 to2 to3 to4 to5 to6 to7 to8 to9 to10):=(by rw [hgl,hc];simp [sY_]);subst hgen;clear hgl;simp only [GX.op]at a2;simp only [wt_]at hl⊢;rw [List.length_append]at hl
  (refine b_ rfl rfl ?_ ?_<;>intro h<;>simp only [nc]at h<;>try omega)
  refine uv_ hk rfl (by simp only [okL,okI]) (VOK_lt (qh_ _ _ (by omega)) (okI _) ?_)
  (refine b_ rfl rfl ?_ ?_<;>intro h<;>simp only [nc]at h<;>try omega)
  .rw [if_pos h]at hl⊢;have hw:=a1.1;obtain ⟨y,rfl⟩:∃y,to10=[y]:=by
    cases to10 with
    |nil=>unfold Ari at hw;simp only [List.length_nil]at hw;omega
    |cons y r=>
     cases r with
     |nil=>exact ⟨y,rfl⟩
     |cons z r=>unfold Ari at hw;simp only [List.length_cons]at hw;omega
   have hy:=yZ_ (v9_ (by decide) (a1.2.2.2.2.2 y (List.mem_cons_self ..)));have hpos:=xC_ y;simp only [n_,List.append_nil,List.length_append,List.length_cons,List.length_nil]at hl⊢;have hld:=R_ [y] (i:=0) (by simp);obtain ⟨gy,hgy⟩:∃gy,gy=N_ y:=⟨_,rfl⟩;rw [←hgy]at hl hy hpos⊢;obtain ⟨y1,y2,y3,y4,y5,y6,y7,y8,y9,y10⟩:=y;refine VOK_lt (Q_ [_] (i:=0) (by simp)) (kP_ okX _) (u9_ hld rfl (okX _) (uv_ hy rfl (by simp only [okL,okI]) (u7_ (zd_ rfl hpos) ?_)));refine VOK_lt (qh_ _ _ (by simp only [List.length_append];omega)) (okI _) (VOK_lt (xV_ _ (w_ 19 0 to5 to6) (by simp only [List.length_append];omega)) (okI _) (VOK_fin (wR_ _) ?_));exact congrArg (λz=>[h_ z]) (by simp only [List.append_assoc])
  rw [if_neg h]at hl⊢;simp only [List.length_cons,List.length_nil]at hl;refine VOK_lt (J_ _ (w_ 18 0 to5 0) (by simp only [List.length_append];omega)) (okI _) (VOK_fin (wR_ _) ?_);exact congrArg (λz=>[h_ z]) (List.append_assoc ..)
 .have hk:=yZ_ b1;rw [←hc]at hk;obtain ⟨t,ht⟩:∃t,t=m_ (l.length+c.length+1) thn:=⟨_,rfl⟩;obtain ⟨q,hq⟩:∃q,q=m_ (l.length+c.length+1+t.length+1) els:=⟨_,rfl⟩;have hlc:l.length+c.length+1+t.length<=900000:=by
   rcases ho with rfl|rfl
   .have hgen:gl=if els=[]then c++[w_ 21 0 ((l.length+c.length+1+t.length:Nat):Int) 0]++t else c++[w_ 21 0 ((l.length+c.length+1+t.length+1:Nat):Int) 0]++t++[w_ 20 0 ((l.length+c.length+1+t.length+1+q.length:Nat):Int) 0]++q:=by rw [hgl,hq,ht,hc];simp [sY_]
    rw [hgen]at hl;split at hl<;>simp only [List.length_append,List.length_cons,List.length_nil]at hl<;>omega
   have hgen:gl=c++[w_ 21 0 ((l.length+c.length+1+t.length+1:Nat):Int) 0]++t++[w_ 20 0 (l.length:Int) 0]:=(by rw [hgl,ht,hc];simp [sY_]);rw [hgen]at hl;simp only [List.length_append,List.length_cons,List.length_nil]at hl;omega
  have k3:=hT thn (l++c++[w_ 21 0 0 0]) b3 b5 (by simp only [List.length_append,List.length_cons,List.length_nil,Nat.zero_add];rw [←ht];omega);have e0:(l++c++[w_ 21 0 0 0]).length=l.length+c.length+1:=(by simp only [List.length_append,List.length_cons,List.length_nil]);rw [e0,←ht,List.append_assoc (l++c)]at k3;have hlc1:(l++c).length=l.length+c.length:=List.length_append
  (refine b_ rfl rfl ?_ ?_<;>intro h<;>simp only [nc]at h<;>try omega)
  (refine b_ rfl rfl ?_ ?_<;>intro h<;>simp only [nc]at h<;>try omega)
  refine uv_ hk rfl (by simp only [okL,okI]) (VOK_lt (qh_ _ _ (by omega)) (okI _) (VOK_lt (F_ _) rfl (VOK_lt (J_ _ (w_ 21 0 0 0) (by omega)) (okI _) ?_)));refine a_ k3 rfl (zE_ _ _) ⟨?_,trivial⟩;rintro ws rfl
  (refine b_ rfl rfl ?_ ?_<;>intro h<;>simp only [nc]at h<;>try omega)
  have h3:op=3:=h;subst h3;have hgen:gl=c++[w_ 21 0 ((l.length+c.length+1+t.length+1:Nat):Int) 0]++t++[w_ 20 0 (l.length:Int) 0]:=(by rw [hgl,ht,hc];simp [sY_]);subst hgen;have e2:l++c++([w_ 21 0 0 0]++t)++[w_ 20 0 (l.length:Int) 0]=l++c++([w_ 21 0 0 0]++(t++[w_ 20 0 (l.length:Int) 0])):=(by simp only [List.append_assoc]);have ka:=J_ (l++c++([w_ 21 0 0 0]++t)) (w_ 20 0 (l.length:Int) 0) (by simp only [List.length_append,List.length_cons,List.length_nil];omega);rw [e2]at ka;refine VOK_lt ka (okI _) (VOK_lt (F_ _) rfl (VOK_lt (us_ (i:=(l++c).length) (by simp) .i64) rfl (VOK_lt (uE_ (l++c) 21 (t++[w_ 20 0 (l.length:Int) 0]) _) (okI _) (u7_ (vF_ rfl rfl (by simp)) (VOK_fin (wR_ _) ?_)))));refine congrArg (λz=>[h_ z]) ?_;simp only [List.append_assoc,List.length_append,List.length_cons,List.length_nil];have x1:l.length+(c.length+(0+1+(t.length+(0+1))))=l.length+c.length+1+t.length+1:=(by omega);rw [x1];have h2:op=2:=(by omega);subst h2;have hgen:gl=if els=[]then c++[w_ 21 0 ((l.length+c.length+1+t.length:Nat):Int) 0]++t else c++[w_ 21 0 ((l.length+c.length+1+t.length+1:Nat):Int) 0]++t++[w_ 20 0 ((l.length+c.length+1+t.length+1+q.length:Nat):Int) 0]++q:=by rw [hgl,hq,ht,hc];simp [sY_]
  subst hgen;refine VOK_lt (vh_ els) rfl ?_
  (refine b_ rfl rfl ?_ ?_<;>intro h<;>simp only [nc]at h<;>try omega)
  .have hne:els=[]:=by
     cases els with
     |nil=>rfl
     |cons a r=>simp at h;omega
   rw [if_pos hne];refine VOK_lt (F_ _) rfl (VOK_lt (us_ (i:=(l++c).length) (by simp) .i64) rfl (VOK_lt (uE_ (l++c) 21 t _) (okI _) (u7_ (vF_ rfl rfl (by simp)) (VOK_fin (wR_ _) ?_))));refine congrArg (λz=>[h_ z]) ?_;simp only [List.append_assoc,List.length_append,List.length_cons,List.length_nil];have x1:l.length+(c.length+(0+1+t.length))=l.length+c.length+1+t.length:=(by omega);rw [x1]
  have hne:els≠[]:=λe=>(by subst e;simp at h);rw [if_neg hne]at hl⊢;simp only [List.length_append,List.length_cons,List.length_nil]at hl;have e2:l++c++([w_ 21 0 0 0]++t)++[w_ 20 0 0 0]=l++c++([w_ 21 0 0 0]++(t++[w_ 20 0 0 0])):=(by simp only [List.append_assoc]);have ka:=J_ (l++c++([w_ 21 0 0 0]++t)) (w_ 20 0 0 0) (by simp only [List.length_append,List.length_cons,List.length_nil];omega);rw [e2]at ka;refine VOK_lt (F_ _) rfl (VOK_lt ka (okI _) ?_);refine VOK_lt (F_ _) rfl (VOK_lt (us_ (i:=(l++c).length) (by simp) .i64) rfl (VOK_lt (uE_ (l++c) 21 (t++[w_ 20 0 0 0]) _) (okI _) (u7_ (vF_ rfl rfl (by simp)) ?_)));have e5':(l++c++([w_ 21 0 0 0]++(t++[w_ 20 0 0 0]))).length=l.length+c.length+1+t.length+1:=(by simp only [List.length_append,List.length_cons,List.length_nil];omega);have k5:=hT els (l++c++([w_ 21 0 ((l++c++([w_ 21 0 0 0]++(t++[w_ 20 0 0 0]))).length:Int) 0]++(t++[w_ 20 0 0 0]))) b4 b6 (by simp only [List.length_append,List.length_cons,List.length_nil];rw [show l.length+c.length+(0+1+(t.length+(0+1)))=l.length+c.length+1+t.length+1 by omega,←hq];omega);have e6':(l++c++([w_ 21 0 ((l++c++([w_ 21 0 0 0]++(t++[w_ 20 0 0 0]))).length:Int) 0]++(t++[w_ 20 0 0 0]))).length=l.length+c.length+1+t.length+1:=(by simp only [List.length_append,List.length_cons,List.length_nil];omega);rw [e6',←hq]at k5;have e7':l++c++([w_ 21 0 ((l++c++([w_ 21 0 0 0]++(t++[w_ 20 0 0 0]))).length:Int) 0]++(t++[w_ 20 0 0 0]))++q=(l++c++([w_ 21 0 ((l++c++([w_ 21 0 0 0]++(t++[w_ 20 0 0 0]))).length:Int) 0]++t))++([w_ 20 0 0 0]++q):=(by simp only [List.append_assoc]);rw [e7']at k5;refine a_ k5 rfl (zE_ _ _) ⟨?_,trivial⟩;rintro ws rfl;have e8':(((l++c++([w_ 21 0 0 0]++t)).length:Nat):Int)=(((l++c++([w_ 21 0 ((l++c++([w_ 21 0 0 0]++(t++[w_ 20 0 0 0]))).length:Int) 0]++t)).length:Nat):Int):=(by simp only [List.length_append,List.length_cons,List.length_nil]);refine VOK_lt (F_ _) rfl (VOK_lt (r:=.int .i64 (((l++c++([w_ 21 0 ((l++c++([w_ 21 0 0 0]++(t++[w_ 20 0 0 0]))).length:Int) 0]++t)).length:Nat):Int)) (by rw [←e8'];exact us_ (i:=(l++c++([w_ 21 0 0 0]++t)).length) (by simp) .i64) rfl (VOK_lt (uE_ _ 20 q _) (okI _) (u7_ (vF_ rfl rfl (by simp)) (VOK_fin (wR_ _) ?_))));refine congrArg (λz=>[h_ z]) ?_;rw [e5'];simp only [List.append_assoc,List.length_append,List.length_cons,List.length_nil];have x1:l.length+(c.length+(0+1+(t.length+(0+1+q.length))))=l.length+c.length+1+t.length+1+q.length:=(by omega);rw [x1]
 .have hgen:gl=n_ args++[w_ 22 kd ad (args.length:Int)]:=(by rw [hgl];simp [sY_]);subst hgen;clear hgl;simp only [List.length_append,List.length_cons,List.length_nil]at hl;have hal:args.length<=2:=(by rcases c1 with ⟨_,_,c1⟩|⟨_,_,c1⟩|⟨_,_,c1⟩<;>(have:=congrArg List.length c1;simp at this;omega));have hE:∀i,(n_ (args.take i)).length<=(n_ args).length:=λi=>by have:=congrArg List.length (em_ (args.take i) (args.drop i));rw [List.take_append_drop,List.length_append]at this;omega
  (refine b_ rfl rfl ?_ ?_<;>intro h<;>simp only [nc]at h<;>try omega)
  (refine b_ rfl rfl ?_ ?_<;>intro h<;>simp only [nc]at h<;>try omega)
  refine ux_ (ι:=Nat) (λi=>[.int .i64 (i:Int),h_ (l++n_ (args.take i))]) (λi=>i<=args.length) (λi=>args.length-i) 0 (Nat.zero_le _) (by simp [n_];rfl) (λi _=>by simp only [okL,okC,okI]) (λi j _ _ h=>by simp at h;omega) (λi hi=>?_);refine VOK_lt (t_ args) rfl ?_
  (refine b_ rfl rfl ?_ ?_<;>intro h<;>simp only [nc]at h<;>try omega)
  have hi:i<args.length:=(by omega);have hld:=R_ args hi;have hg:n_ (args.take (i+1))=n_ (args.take i)++N_ args[i]:=(by rw [List.take_succ_eq_append_getElem hi,em_];simp only [n_,List.append_nil]);have hz:=yZ_ (c2 _ (List.getElem_mem hi));have hl2:(l++n_ (args.take i)).length+(N_ args[i]).length<=1000000:=(by have:=hE (i+1);rw [hg,List.length_append]at this;rw [List.length_append];omega);rcases hzz:args[i]with ⟨zo,zk,znm,zfd,zad,zn,zvk,zvi,zvf,za⟩;rw [hzz]at hld hz hg hl2;refine VOK_lt (Q_ args hi) (kP_ okX _) (u9_ hld rfl (okX _) (uv_ hz rfl (by simp only [okL,okI]) (VOK_lt (qh_ _ _ hl2) (okI _) ?_)));refine VOK_lt (p_ (by omega) (by omega)) rfl (ul_ rfl ⟨i+1,hi,?_,by omega⟩);rw [hg,←List.append_assoc];rfl;have hi:i=args.length:=(by omega);subst hi;rw [List.take_length];refine VOK_lt (t_ args) rfl (VOK_lt (J_ _ (w_ 22 kd ad (args.length:Int)) (by rw [List.length_append];omega)) (okI _) (VOK_fin (wR_ _) ?_));exact congrArg (λz=>[h_ z]) (List.append_assoc ..)
theorem p25 (d:Nat) (hT:∀e,d=e+1->P23 e):P23 d:=by
 intro x l hx5 hx hl;refine va_ (c:=c25) (n:=300) (t:=t25) mo ov rfl (λY _=>vu_ _) (by kernel_rfl) λY hf hg=>?_;unfold t25;refine ux_ (ι:=Nat) (λi=>[.int .i64 (i:Int),h_ (l++m_ l.length (x.take i))]) (λi=>i<=x.length) (λi=>x.length-i) 0 (Nat.zero_le _) (by simp [m_];rfl) (λi _=>by simp only [okL,okC,okI]) (λi j _ _ h=>by simp at h;omega) (λi hi=>?_);refine VOK_lt (vh_ x) rfl ?_
 (refine b_ rfl rfl ?_ ?_<;>intro h<;>simp only [nc]at h<;>try omega)
 have hi:i<x.length:=(by omega);have hg:=wN_ l.length x hi;have hle:=xE_ l.length x (i+1);have hz:=p56 d hT x[i] (l++m_ l.length (x.take i)) (hx _ (List.getElem_mem hi)) (by rw [hg,List.length_append]at hle;rw [List.length_append];omega);have hld:=wF_ x hi;rw [List.length_append]at hz;rcases hzz:x[i]with ⟨z1,⟨a1,a2,a3,a4,a5,a6,a7,a8,a9,a10⟩,⟨b1,b2,b3,b4,b5,b6,b7,b8,b9,b10⟩,z4,z5,z6,z7,z8,z9⟩;rw [hzz]at hld hz hg;refine VOK_lt (wE_ x hi) (kP_ okS _) (u9_ hld rfl (okS _) ?_);refine a_ hz rfl (Bc_ _ _) ⟨?_,trivial⟩;rintro ws rfl;refine VOK_lt (p_ (by omega) (by omega)) rfl (ul_ rfl ⟨i+1,hi,?_,by omega⟩);rw [hg,←List.append_assoc];rfl;have hi:i=x.length:=(by omega);subst hi;rw [List.take_length];exact VOK_fin (wR_ _) rfl
theorem wU_:∀d,P23 d
 |0=>p25 0 λe h=>by omega
 |d+1=>p25 (d+1) λe h=>by have:d=e:=(by omega);subst this;exact wU_ d
theorem p9 {d:Nat} {v:AV} (hv:okC v=true) {x:List GS} (h5:x.length<=5) (hx:∀s∈x,TS d s) (hl:(m_ 0 x).length<=900000):jw_ Tryz.prog 9 [.agg [v,H_ x]] (wD_ x):=by
 have h:CF Tryz.prog 25 ft25 [.nsl,H_ x] (R24 (m_ 0 x)):=wU_ d x [] h5 hx (by simpa using hl);refine t0_ (sh:=[some 2]) (ls:=[v,H_ x]) (c:=c9) (n:=300) (t:=t9) mo ov rfl (by simp only [okL,hv,okB]) (y9_ x) (λY _=>vu_ _) rfl (by kernel_rfl) λY hf hg=>?_;unfold t9;refine a_ h rfl (by simp only [okL,okC,okB]) ⟨?_,trivial⟩;rintro ws rfl;refine VOK_lt (J_ _ (w_ 23 0 0 0) (by omega)) (okI _) (VOK_lt (F_ _) rfl ?_);have hg:m_ 0 x++[w_ 23 0 0 0]=O_ x:=rfl;rw [hg]
 (refine b_ rfl rfl ?_ ?_<;>intro h<;>simp only [nc]at h<;>try omega)
 refine uw_ ?_;unfold wD_ pl pe;rw [if_neg (by omega),if_neg (by omega)];rfl;refine uw_ ?_;unfold wD_ pl pe;rw [if_pos (by omega),if_pos (by omega)];rfl
theorem wi_ {α:Type} {enc:α->List AV} {p:List AV->Prop} {q:α->Prop} (h:∀r,p r->∃a,r=enc a/\q a):∀rows:List (List AV),(∀r,r∈rows->p r)->∃l:List α,rows.flatten=bA_ enc l/\l.length=rows.length/\∀a,a∈l->q a
 |[],_=>⟨[],rfl,rfl,λa h=>by cases h⟩
 |r::rows,hr=>by obtain ⟨a,rfl,ha⟩:=h r (hr r (List.mem_cons_self ..));obtain ⟨l,h1,h2,h3⟩:=wi_ h rows λr h=>hr r (List.mem_cons_of_mem _ h);refine ⟨a::l,by rw [List.flatten_cons,h1];rfl,by simp [h2],λb hb=>?_⟩;rcases List.mem_cons.1 hb with rfl|hb;exact ha;exact h3 b hb
theorem y1_ {r:List AV} (h:Sx.Fit Tryz.prog 5 r):∃c:UInt8,r=vy_ c/\True:=by
 obtain ⟨n,rfl,hn⟩:=tn_ Tryz.underlying5 h;have hn:0<=n/\n<=255:=by simpa [Lit.wf,IntKind.min,IntKind.max,IntKind.bits,IntKind.signed]using hn
 refine ⟨n.toNat.toUInt8,?_,trivial⟩;have:((n.toNat.toUInt8).toNat:Int)=n:=by have h1:n.toNat.toUInt8.toNat=n.toNat:=(by simp only [Nat.toUInt8,UInt8.toNat_ofNat'];omega);rw [h1];omega
 unfold vy_;rw [this]
theorem arg_u8s {H:Type} {enc:TypeId×Value->H} {W:World} {base:Nat} {v:Value} {dd:DataW H} {p ps:List MemPlace} (hok:Value.okWide Tryz.prog W .any base 22 v)
  (h:DataW.Trod enc Tryz.prog W 0 (λ_=>true) true 22 v dd p) (hps:∀q,q∈p->q∈ps):∃(l:List UInt8) (a:AV),SlV vy_ 1 l a/\True/\l.length<=maxLen/\Con (j4_ (k6_ W ps)) a v:=by
 rcases un_ (d:=5) Tryz.underlying22 (by kernel_rfl) hok h hps with rfl|⟨rows,h1,h2,h3,h4⟩;exact ⟨[],.nsl,.inr ⟨rfl,rfl⟩,trivial,Nat.zero_le _,by simp only [Con]⟩;obtain ⟨l,k1,k2,k3⟩:=wi_ (enc:=vy_) (q:=λ_=>True) (λr hr=>y1_ hr) rows h1;have hc:Tryz.prog.cellsOf 5=1:=(by kernel_rfl);refine ⟨l,pn_ vy_ 1 l,.inl rfl,trivial,by omega,?_⟩;have h4':=h4;rw [k1,hc,←k2]at h4';exact h4'
end Go.Proofs.YtelnbodnjmldeaaGreat.vars
