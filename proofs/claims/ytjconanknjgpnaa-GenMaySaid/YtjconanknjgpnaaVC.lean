/-
  Are instructions the same; a program cut in two.
-/
import Derived.Test.YtjconanknjgpnaaVM
import Derived.Test.YtjconanknjgpnaaFA
import Derived.Test.YtjconanknjgpnaaSyS
set_option maxRecDepth 100000
set_option linter.unusedVariables false
set_option linter.unusedSimpArgs false
namespace Go.Proofs.Ytjconanknjgpnaa.vars
open Go Go.Sx
def c28:VC:=⟨⟨[],[]⟩,[(47,[none])],[],0,true,[]⟩
def t28:VT:=
 (.lt (.bin .eql 3 false false) [64,67] 70 none
 (.ite 70
 (.lt (.bin .eql 2 false false) [65,68] 71 none
 (.ite 71
 (.call 47 [66,69] 72 [none]
 (.done (72)))
 (.done (.bool false))))
 (.done (.bool false))))
def c14:VC:=⟨⟨[],[]⟩,[(28,[none])],[],0,true,[]⟩
def t14:VT:=
 (.lt (.bin .eql 3 false false) [64,71] 78 none
 (.ite 78
 (.lt (.bin .eql 3 false false) [65,72] 79 none
 (.ite 79
 (.lt (.bin .eql 3 false false) [66,73] 80 none
 (.ite 80
 (.lt (.bin .eql 3 false false) [67,74] 81 none
 (.ite 81
 (.call 28 [.agg [68,69,70],.agg [75,76,77]] 82 [none]
 (.done (82)))
 (.done (.bool false))))
 (.done (.bool false))))
 (.done (.bool false))))
 (.done (.bool false))))
def c5:VC:=⟨⟨[],[]⟩,[(6,[none]),(8,[none,none]),(14,[none])],[(0,[⟨[(17,.slx 0 0 0),(10,81),(12,83),(14,85),(16,97)],[],0,1,[],[],[]⟩])],0,true,[(7,ft7)]⟩
def t5:VT:=
 (.call 6 [] 66 [none]
 (.lt (.un .not) [66] 67 none
 (.ite 67
 (.done (.bool false))
 (.lt (.len 22) [64] 68 none
 (.lt (.bin .gtr 3 false true) [68,J 200] 69 none
 (.ite 69
 (.done (.bool true))
 (.callF 7 ft7 [64] 70
 (.cons 3
 (.lt (.un .not) [73] 74 none
 (.ite 74
 (.done (.bool true))
 (.lt (.conv 5 3) [65] 75 none
 (.lt (.len 25) [72] 76 none
 (.lt (.bin .add 3 false true) [76,J 1] 77 none
 (.lt (.bin .rem 3 false false) [75,77] 78 none
 (.lt (.slc 25 false true) [72,78] 79 none
 (.lt (.slc 25 true false) [72,78] 80 none
 (.call 8 [.agg [71,72]] 81 [none,none]
 (.call 8 [.agg [71,79]] 83 [none,none]
 (.call 8 [.agg [71,80]] 85 [none,none]
 (.lt (.bin .neq 31 false true) [82,J 0] 87 none
 (.ite 87
 (.lt (.bin .eql 31 false true) [82,J 12] 88 none
 (.done (88)))
 (.lt (.bin .neq 31 false true) [84,J 0] 88 none
 (.ite 88
 (.done (.bool false))
 (.lt (.bin .neq 31 false true) [86,J 0] 89 none
 (.ite 89
 (.done (.bool false))
 (.lt (.len 30) [81] 90 none
 (.lt (.len 30) [83] 91 none
 (.lt (.len 30) [85] 92 none
 (.lt (.bin .add 3 false false) [91,92] 93 none
 (.lt (.bin .sub 3 false true) [93,J 1] 94 none
 (.lt (.bin .neq 3 false false) [90,94] 95 none
 (.ite 95
 (.done (.bool false))
 (.lt (.len 30) [83] 96 none
 (.lt (.bin .sub 3 false true) [96,J 1] 97 none
 (.loop 98 0 [J 0]
 (.cons 1
 (.lt (.len 30) [81] 99 none
 (.lt (.bin .lss 3 false false) [98,99] 100 none
 (.ite 100
 (.lt (.bin .lss 3 false false) [98,97] 101 none
 (.ite 101
 (.lt (.iaddr 30) [83,98] 102 none
 (.lt (.load 47) [102] 103 (some 7)
 (.lt (.iaddr 30) [81,98] 110 none
 (.lt (.load 47) [110] 111 (some 7)
 (.call 14 [.agg [111,112,113,114,115,116,117],.agg [103,104,105,106,107,108,109]] 118 [none]
 (.lt (.un .not) [118] 119 none
 (.ite 119
 (.done (.bool false))
 (.lt (.bin .add 3 false true) [98,J 1] 120 none
 (.again 0 0 [120])))))))))
 (.lt (.bin .sub 3 false false) [98,97] 102 none
 (.lt (.iaddr 30) [85,102] 103 none
 (.lt (.load 47) [103] 104 (some 7)
 (.lt (.bin .eql 3 false true) [104,J 20] 111 none
 (.ite 111
 (.lt (.bin .add 3 false false) [106,97] 112 none
 (.lt (.iaddr 30) [81,98] 113 none
 (.lt (.load 47) [113] 114 (some 7)
 (.call 14 [.agg [114,115,116,117,118,119,120],.agg [104,105,112,107,108,109,110]] 121 [none]
 (.lt (.un .not) [121] 122 none
 (.ite 122
 (.done (.bool false))
 (.lt (.bin .add 3 false true) [98,J 1] 123 none
 (.again 0 0 [123]))))))))
 (.lt (.bin .eql 3 false true) [104,J 21] 112 none
 (.ite 112
 (.lt (.bin .add 3 false false) [106,97] 113 none
 (.lt (.iaddr 30) [81,98] 114 none
 (.lt (.load 47) [114] 115 (some 7)
 (.call 14 [.agg [115,116,117,118,119,120,121],.agg [104,105,113,107,108,109,110]] 122 [none]
 (.lt (.un .not) [122] 123 none
 (.ite 123
 (.done (.bool false))
 (.lt (.bin .add 3 false true) [98,J 1] 124 none
 (.again 0 0 [124]))))))))
 (.lt (.iaddr 30) [81,98] 113 none
 (.lt (.load 47) [113] 114 (some 7)
 (.call 14 [.agg [114,115,116,117,118,119,120],.agg [104,105,106,107,108,109,110]] 121 [none]
 (.lt (.un .not) [121] 122 none
 (.ite 122
 (.done (.bool false))
 (.lt (.bin .add 3 false true) [98,J 1] 123 none
 (.again 0 0 [123]))))))))))))))))
 (.done (.bool true)))))
 .nil))))))))))))))))))))))))))))
 .nil))))))))
theorem p47 {f:Nat} (h:Flt4 f):Pure Try.prog 47 [.flt .f64 f,.flt .f64 f] (.bool true):=by
 rcases h with rfl|rfl|rfl|rfl
 ·exact k47_0
 ·exact k47_1
 ·exact k47_2
 ·exact k47_3
theorem p28 (k i:Int) {f:Nat} (h:Flt4 f):Pure Try.prog 28 [.agg [.int .i64 k,.int .i64 i,.flt .f64 f],.agg [.int .i64 k,.int .i64 i,.flt .f64 f]] (.bool true):=by
 refine pure_shape (sh:=[some 3,some 3]) (ls:=[.int .i64 k,.int .i64 i,.flt .f64 f,.int .i64 k,.int .i64 i,.flt .f64 f]) (c:=c28) (n:=300) (t:=t28) mo ov rfl rfl rfl (λY _=>known0 _) rfl (by kernel_rfl) λY hf hg=>?_
 unfold t28
 refine it_eq rfl (λ_=>?_) (λh=>absurd rfl h)
 refine it_eq rfl (λ_=>?_) (λh=>absurd rfl h)
 exact VOK_call (p47 h) rfl rfl (VOK_done rfl)
theorem p14 {i j:GI} (e:i=j) (h:Flt4 i.vf):Pure Try.prog 14 [.agg (encG i),.agg (encG j)] (.bool true):=by
 subst e
 refine pure_shape (sh:=[some 7,some 7]) (ls:=encG i++encG i) (c:=c14) (n:=300) (t:=t14) mo ov rfl rfl rfl (λY _=>known0 _) rfl (by kernel_rfl) λY hf hg=>?_
 unfold t14
 refine it_eq rfl (λ_=>?_) (λh=>absurd rfl h)
 refine it_eq rfl (λ_=>?_) (λh=>absurd rfl h)
 refine it_eq rfl (λ_=>?_) (λh=>absurd rfl h)
 refine it_eq rfl (λ_=>?_) (λh=>absurd rfl h)
 exact VOK_call (p28 _ _ h) rfl rfl (VOK_done rfl)
theorem run_ia30 (l:List GI) {i:Nat} (h:i<l.length):(XOp.iaddr 30).run Try.prog [insts l,.int .i64 (i:Int)]=some (.vptr (encL encG (l.drop i))):=
 run_iaddr_sl (e:=47) (ti:=(Try.prog.info? 47).get!) Try.underlying30 (by kernel_rfl) (by kernel_rfl) lenG h .i64
theorem run_ld47 (l:List GI) {i:Nat} (h:i<l.length):(XOp.load 47).run Try.prog [.vptr (encL encG (l.drop i))]=some (.agg (encG l[i])):=
 run_load_agg (ti:=(Try.prog.info? 47).get!) Try.underlying47 rfl (by kernel_rfl) (by kernel_rfl) lenG h
theorem p5 {l:List UInt8} {a:AV} (hp:Pk l a) (c:Nat) (hc:c<256):Pure Try.prog 5 [a,.int .u8 (c:Int)] (.bool true):=by
 have hA:=hp.1.ok okC8
 refine pure_shape (sh:=[none,none]) (ls:=[a,.int .u8 (c:Int)]) (c:=c5) (n:=300) (t:=t5) mo ov rfl (by simp only [okL,okC,hA]) rfl (λY _=>known0 _) rfl (by kernel_rfl) λY hf hg=>?_
 unfold t5
 refine VOK_call k6 rfl rfl (VOK_lt rfl rfl (VOK_ite rfl (λh=>by cases h) (λ_=>?_)))
 refine VOK_lt (len22 hp) rfl ?_
 (refine it_c rfl rfl (λh=>?_) (λh=>?_)<;>simp only [Cmp,Decidable.not_not,Int.not_lt,Int.not_le]at h<;>try (exfalso;first|exact h trivial|omega))
 ·exact VOK_done rfl
 refine callF' (p7 hp) rfl (by simp only [okL,hA]) ⟨?_,trivial⟩
 rintro ws ⟨v,b,e,rfl,hv,hb⟩
 refine VOK_lt (run_not ..) rfl (VOK_ite rfl (λh=>VOK_done rfl) (λh=>?_))
 obtain ⟨rfl,hb5,hT⟩:=hb (by simpa using h)
 refine VOK_lt (cv5_3 c hc) rfl (VOK_lt (run_len25 b) rfl (VOK_lt (add_c (by omega) (by omega)) rfl (VOK_lt (run_rem c (b.length+1) (by omega) (by omega) ..) rfl ?_)))
 obtain ⟨k,hk⟩:∃k,k=c%(b.length+1):=⟨_,rfl⟩
 have hkb:k<=b.length:=by have:=Nat.mod_lt c (show 0<b.length+1 by omega);omega
 rw [←hk]
 have hsl:SlV encS 27 b (encB b):=by rw [encB_eq];exact SlV.of b
 obtain ⟨r1,hr1,hs1⟩:=hsl.slc01 (P:=Try.prog) (ti:=(Try.prog.info? 42).get!) Try.underlying25 (by kernel_rfl) (by kernel_rfl) lenS (k:=.i64) hkb
 obtain ⟨r2,hr2,hs2⟩:=hsl.slc10 (P:=Try.prog) (ti:=(Try.prog.info? 42).get!) Try.underlying25 (by kernel_rfl) (by kernel_rfl) lenS (k:=.i64) hkb
 refine VOK_lt hr1 (hs1.ok okS) (VOK_lt hr2 (hs2.ok okS) ?_)
 obtain ⟨x,hx⟩:∃x,x=b.take k:=⟨_,rfl⟩
 obtain ⟨y,hy⟩:∃y,y=b.drop k:=⟨_,rfl⟩
 rw [←hx]at hs1
 rw [←hy]at hs2
 have hxy:b=x++y:=by rw [hx,hy,List.take_append_drop]
 have hx5:x.length<=5:=by have:=congrArg List.length hxy;rw [List.length_append]at this;omega
 have hy5:y.length<=5:=by have:=congrArg List.length hxy;rw [List.length_append]at this;omega
 have hTx:∀s∈x,TS 3 s:=λs hs=>hT s (by rw [hxy];exact List.mem_append_left _ hs)
 have hTy:∀s∈y,TS 3 s:=λs hs=>hT s (by rw [hxy];exact List.mem_append_right _ hs)
 have hbl:=genSs3 hb5 hT 0
 refine VOK_call (p8 (v:=VARS) rfl hsl hb5 hT (by omega)) rfl (by simp only [okL,okPl,okC]) ?_
 refine VOK_call (p8 (v:=VARS) rfl hs1 hx5 hTx (by have:=genSs3 hx5 hTx 0;omega)) rfl (by simp only [okL,okPl,okC]) ?_
 refine VOK_call (p8 (v:=VARS) rfl hs2 hy5 hTy (by have:=genSs3 hy5 hTy 0;omega)) rfl (by simp only [okL,okPl,okC]) ?_
 have hparts:genP b=genSs 0 x++(genP y).map (sh (genSs 0 x).length):=by rw [hxy];exact genP_parts hTy
 have hgx:genP x=genSs 0 x++[ins 23 0 0 0]:=rfl
 have hlx:(genP x).length=(genSs 0 x).length+1:=by rw [hgx,List.length_append];rfl
 have hly:1<=(genP y).length:=by simp [genP]
 have hlb:(genP b).length=(genSs 0 x).length+(genP y).length:=by rw [hparts,List.length_append,List.length_map]
 by_cases hfit:(genP b).length<=400
 ·have e0:pe b=0:=if_pos hfit
  have e1:pl b=insts (genP b):=if_pos hfit
  have e2:pe x=0:=if_pos (by omega)
  have e3:pl x=insts (genP x):=if_pos (by omega)
  have e4:pe y=0:=if_pos (by omega)
  have e5:pl y=insts (genP y):=if_pos (by omega)
  rw [e0,e1,e2,e3,e4,e5]
  obtain ⟨n,hn⟩:∃n,n=(genSs 0 x).length:=⟨_,rfl⟩
  rw [←hn]at hparts hlx hlb
  (refine it_c rfl rfl (λh=>?_) (λh=>?_)<;>simp only [Cmp,Decidable.not_not,Int.not_lt,Int.not_le]at h<;>try (exfalso;first|exact h trivial|omega));(refine it_c rfl rfl (λh=>?_) (λh=>?_)<;>simp only [Cmp,Decidable.not_not,Int.not_lt,Int.not_le]at h<;>try (exfalso;first|exact h trivial|omega));(refine it_c rfl rfl (λh=>?_) (λh=>?_)<;>simp only [Cmp,Decidable.not_not,Int.not_lt,Int.not_le]at h<;>try (exfalso;first|exact h trivial|omega))
  refine VOK_lt (run_len30 _) rfl (VOK_lt (run_len30 _) rfl (VOK_lt (run_len30 _) rfl (VOK_lt (add_c (by omega) (by omega)) rfl (VOK_lt (sub_c (z:=((genP b).length:Int)) (by omega) (by omega) (by omega)) rfl ?_))))
  (refine it_c rfl rfl (λh=>?_) (λh=>?_)<;>simp only [Cmp,Decidable.not_not,Int.not_lt,Int.not_le]at h<;>try (exfalso;first|exact h trivial|omega))
  refine VOK_lt (run_len30 _) rfl (VOK_lt (sub_c (z:=(n:Int)) (by omega) (by omega) (by omega)) rfl ?_)
  refine VOK_loop (ι:=Nat) (λi=>[.int .i64 (i:Int)]) (λi=>i<=(genP b).length) (λi=>(genP b).length-i) 0 (Nat.zero_le _) rfl (λi _=>rfl) (λi j _ _ h=>by simp at h;omega) (λi hi=>?_)
  refine VOK_lt (run_len30 _) rfl ?_
  (refine it_c rfl rfl (λh=>?_) (λh=>?_)<;>simp only [Cmp,Decidable.not_not,Int.not_lt,Int.not_le]at h<;>try (exfalso;first|exact h trivial|omega))
  ·have hi:i<(genP b).length:=by omega
   have hgb:=genP_gok hT
   (refine it_c rfl rfl (λh=>?_) (λh=>?_)<;>simp only [Cmp,Decidable.not_not,Int.not_lt,Int.not_le]at h<;>try (exfalso;first|exact h trivial|omega))
   ·have hix:i<(genP x).length:=by omega
    refine VOK_lt (run_ia30 (genP x) hix) (encL_ok okG _) (VOK_ltN (run_ld47 _ hix) rfl rfl (VOK_lt (run_ia30 (genP b) hi) (encL_ok okG _) (VOK_ltN (run_ld47 _ hi) rfl rfl ?_)))
    have hin:i<(genSs 0 x).length:=by omega
    have e:(genP b)[i]=(genP x)[i]:=by
     simp only [hparts,hgx,List.getElem_append_left hin]
    (
     refine VOK_call (p14 e (hgb _ (List.getElem_mem hi)).1) rfl rfl (VOK_lt (run_not ..) rfl (VOK_ite rfl (λh=>by cases h) (λ_=>?_)))
     exact VOK_lt (add_c (by omega) (by omega)) rfl (VOK_again rfl ⟨i+1,hi,rfl,by omega⟩))
   ·obtain ⟨j,rfl⟩:∃j,i=n+j:=⟨i-n,by omega⟩
    have hj:j<(genP y).length:=by omega
    have e:(genP b)[n+j]=sh n (genP y)[j]:=by
     have h1:(genSs 0 x).length<=n+j:=by omega
     simp only [hparts,List.getElem_append_right h1,List.getElem_map]
     congr 2
     omega
    have hgy:=genP_gok hTy _ (List.getElem_mem hj)
    have hF:Flt4 (genP b)[n+j].vf:=(hgb _ (List.getElem_mem hi)).1
    refine VOK_lt (sub_c (z:=(j:Int)) (by omega) (by omega) (by omega)) rfl (VOK_lt (run_ia30 (genP y) hj) (encL_ok okG _) (VOK_ltN (run_ld47 _ hj) rfl rfl ?_))
    (refine it_c rfl rfl (λh=>?_) (λh=>?_)<;>simp only [Cmp,Decidable.not_not,Int.not_lt,Int.not_le]at h<;>try (exfalso;first|exact h trivial|omega))
    ·have:=hgy.2 (.inl h)
     refine VOK_lt (add_c (by omega) (by omega)) rfl (VOK_lt (run_ia30 (genP b) hi) (encL_ok okG _) (VOK_ltN (run_ld47 _ hi) rfl rfl ?_))
     have e':(genP b)[n+j]={ (genP y)[j]with ad:=(genP y)[j].ad+n }:=by rw [e];exact if_pos (.inl h)
     refine VOK_call (p14 e' hF) rfl rfl (VOK_lt (run_not ..) rfl (VOK_ite rfl (λh=>by cases h) (λ_=>?_)))
     exact VOK_lt (add_c (by omega) (by omega)) rfl (VOK_again rfl ⟨n+j+1,hi,rfl,by omega⟩)
    (refine it_c rfl rfl (λh=>?_) (λh=>?_)<;>simp only [Cmp,Decidable.not_not,Int.not_lt,Int.not_le]at h<;>try (exfalso;first|exact h trivial|omega))
    ·have:=hgy.2 (.inr h)
     refine VOK_lt (add_c (by omega) (by omega)) rfl (VOK_lt (run_ia30 (genP b) hi) (encL_ok okG _) (VOK_ltN (run_ld47 _ hi) rfl rfl ?_))
     have e':(genP b)[n+j]={ (genP y)[j]with ad:=(genP y)[j].ad+n }:=by rw [e];exact if_pos (.inr h)
     refine VOK_call (p14 e' hF) rfl rfl (VOK_lt (run_not ..) rfl (VOK_ite rfl (λh=>by cases h) (λ_=>?_)))
     exact VOK_lt (add_c (by omega) (by omega)) rfl (VOK_again rfl ⟨n+j+1,hi,rfl,by omega⟩)
    ·refine VOK_lt (run_ia30 (genP b) hi) (encL_ok okG _) (VOK_ltN (run_ld47 _ hi) rfl rfl ?_)
     have e':(genP b)[n+j]=(genP y)[j]:=by rw [e];exact if_neg (by rintro (h1|h1)<;>contradiction)
     refine VOK_call (p14 e' hF) rfl rfl (VOK_lt (run_not ..) rfl (VOK_ite rfl (λh=>by cases h) (λ_=>?_)))
     exact VOK_lt (add_c (by omega) (by omega)) rfl (VOK_again rfl ⟨n+j+1,hi,rfl,by omega⟩)
  ·exact VOK_done rfl
 ·have e0:pe b=12:=if_neg hfit
  rw [e0]
  (refine it_c rfl rfl (λh=>?_) (λh=>?_)<;>simp only [Cmp,Decidable.not_not,Int.not_lt,Int.not_le]at h<;>try (exfalso;first|exact h trivial|omega))
  exact VOK_lt (run_eql ..) rfl (VOK_done rfl)
end Go.Proofs.Ytjconanknjgpnaa.vars
set_option maxRecDepth 100000
set_option linter.unusedVariables false
set_option linter.unusedSimpArgs false
namespace Go.Proofs.Ytjconanknjgpnaa.vars
open Go Go.Sx
theorem rows_of {α:Type} {enc:α->List AV} {p:List AV->Prop} {q:α->Prop} (h:∀r,p r->∃a,r=enc a/\q a):∀rows:List (List AV),(∀r,r∈rows->p r)->∃l:List α,rows.flatten=encL enc l/\l.length=rows.length/\∀a,a∈l->q a
 |[],_=>⟨[],rfl,rfl,λa h=>by cases h⟩
 |r::rows,hr=>by
  obtain ⟨a,rfl,ha⟩:=h r (hr r (List.mem_cons_self ..))
  obtain ⟨l,h1,h2,h3⟩:=rows_of h rows λr h=>hr r (List.mem_cons_of_mem _ h)
  refine ⟨a::l,by rw [List.flatten_cons,h1];rfl,by simp [h2],λb hb=>?_⟩
  rcases List.mem_cons.1 hb with rfl|hb
  ·exact ha
  ·exact h3 b hb
theorem fit_u8 {r:List AV} (h:Sx.Fit Try.prog 5 r):∃c:UInt8,r=encC c/\True:=by
 obtain ⟨n,rfl,hn⟩:=fit_int_inv Try.underlying5 h
 have hn:0<=n/\n<=255:=by simpa [Lit.wf,IntKind.min,IntKind.max,IntKind.bits,IntKind.signed]using hn
 refine ⟨n.toNat.toUInt8,?_,trivial⟩
 have:((n.toNat.toUInt8).toNat:Int)=n:=by
  have h1:n.toNat.toUInt8.toNat=n.toNat:=by
   simp only [Nat.toUInt8,UInt8.toNat_ofNat'];omega
  rw [h1];omega
 unfold encC
 rw [this]
theorem arg_u8s {H:Type} {enc:TypeId×Value->H} {W:World} {base:Nat} {v:Value} {dd:DataW H} {p ps:List MemPlace} (hok:Value.okWide Try.prog W .any base 22 v)
  (h:DataW.Trod enc Try.prog W 0 (λ_=>true) true 22 v dd p) (hps:∀q,q∈p->q∈ps):∃(l:List UInt8) (a:AV),SlV encC 1 l a/\True/\l.length<=maxLen/\Con (envOf (imOf W ps)) a v:=by
 rcases arg_slice (d:=5) Try.underlying22 (by kernel_rfl) hok h hps with rfl|⟨rows,h1,h2,h3,h4⟩
 ·exact ⟨[],.nsl,.inr ⟨rfl,rfl⟩,trivial,Nat.zero_le _,by simp only [Con]⟩
 ·obtain ⟨l,k1,k2,k3⟩:=rows_of (enc:=encC) (q:=λ_=>True) (λr hr=>fit_u8 hr) rows h1
  have hc:Try.prog.cellsOf 5=1:=by kernel_rfl
  refine ⟨l,vslOf encC 1 l,.inl rfl,trivial,by omega,?_⟩
  have h4':=h4
  rw [k1,hc,←k2]at h4'
  exact h4'
theorem q5 {l:List UInt8} {x:AV} (sl:SlV encC 1 l x) (m:l.length<=maxLen) {c:Int} (w:(Lit.int .u8 c).wf=true):Pure Try.prog 5 [x,.int .u8 c] (.bool true):=by
 have hn:0<=c/\c<=255:=by simpa [Lit.wf,IntKind.min,IntKind.max,IntKind.bits,IntKind.signed]using w
 obtain ⟨n,rfl⟩:∃n:Nat,c=(n:Int):=⟨c.toNat,by omega⟩
 exact p5 ⟨sl,by simp only [maxLen]at m;omega⟩ n (by omega)
end Go.Proofs.Ytjconanknjgpnaa.vars
set_option maxRecDepth 100000
set_option linter.unusedVariables false
set_option linter.unusedSimpArgs false
namespace Go.Proofs.Ytjconanknjgpnaa.vars
open Go Go.Sx
theorem run_succ (l:List GI) (i:Nat) (h:i<l.length) (k:Nat):run k (l.take (i+1))=nx (run k (l.take i)) l[i]:=by
 rw [List.take_succ_eq_append_getElem h,run_app];rfl
theorem stands {x:List GS} (hx:∀s∈x,TS 3 s) (h4:(genP x).length<=400):Stands (genP x) (λi=>run 0 ((genP x).take i)):=by
 obtain ⟨G,hG⟩:∃G,G=genSs 0 x:=⟨_,rfl⟩
 have hL:genP x=G++[ins 23 0 0 0]:=by rw [hG];rfl
 rw [hL]at h4⊢
 obtain ⟨T,hT⟩:∃T:Nat->Prop,T=λk=>k<(G++[ins 23 0 0 0]).length/\run 0 ((G++[ins 23 0 0 0]).take k)=0:=⟨_,rfl⟩
 have hlen:(G++[ins 23 0 0 0]).length=G.length+1:=by simp
 have aim:Aim T 0 (genSs 0 x):=λm hm hr=>by
  rw [←hG]at hm hr
  rw [hT,Nat.zero_add]
  exact ⟨by omega,by rw [List.take_append_of_le_length hm];exact hr⟩
 have hok:=Ss_ok (S_ok (T:=T) 3) x 0 hx aim
 rw [←hG]at hok
 obtain ⟨ok,hr0⟩:=hok
 have at1:∀i (h:i<(G++[ins 23 0 0 0]).length),(i<G.length/\It T (run 0 ((G++[ins 23 0 0 0]).take i)) (G++[ins 23 0 0 0])[i])\/(i=G.length/\(G++[ins 23 0 0 0])[i]=ins 23 0 0 0):=λi h=>by
  by_cases hi:i<G.length
  ·refine .inl ⟨hi,?_⟩
   have:=ok_at G 0 ok i hi
   rw [List.take_append_of_le_length (by omega),List.getElem_append_left hi]
   exact this
  ·have e:i=G.length:=by omega
   subst e
   exact .inr ⟨rfl,by simp⟩
 have hh:nx 0 (ins 23 0 0 0)=0:=rfl
 have hrL:run 0 (G++[ins 23 0 0 0])=0:=by rw [run_app,hr0];exact hh
 have mem:∀y∈G++[ins 23 0 0 0],∃i,∃h:i<(G++[ins 23 0 0 0]).length,y=(G++[ins 23 0 0 0])[i]:=λy hy=>by
  obtain ⟨i,h,e⟩:=List.mem_iff_getElem.1 hy
  exact ⟨i,h,e.symm⟩
 refine ⟨by omega,h4,λh=>?_,rfl,λi=>?_,λy hy=>?_,λy hy=>?_,λi h=>?_⟩
 ·rcases at1 _ h with ⟨q,_⟩|⟨_,q⟩
  ·omega
  ·rw [q];rfl
 ·cases i with
  |zero=>exact Nat.zero_le _
  |succ i=>
   by_cases hi:i<(G++[ins 23 0 0 0]).length
   ·show run 0 ((G++[ins 23 0 0 0]).take (i+1))<=16
    rw [run_succ _ i hi]
    rcases at1 i hi with ⟨_,q⟩|⟨e,q⟩
    ·exact q.up
    ·rw [q,e,List.take_left,hr0,hh];exact Nat.zero_le _
   ·show run 0 ((G++[ins 23 0 0 0]).take (i+1))<=16
    rw [List.take_of_length_le (by omega),hrL];exact Nat.zero_le _
 ·obtain ⟨i,h,rfl⟩:=mem y hy
  rcases at1 i h with ⟨_,q⟩|⟨_,q⟩
  ·by_cases hj:(G++[ins 23 0 0 0])[i].op=20\/(G++[ins 23 0 0 0])[i].op=21
   ·obtain ⟨_,k,hk,e⟩:=q.jump hj
    rw [hT]at hk
    have hk:=hk.1
    rcases hj with hj|hj
    ·rw [e,hj];exact may_j20 k (by omega)
    ·rw [e,hj];exact may_j21 k (by omega)
   ·exact (q.may (λe=>hj (.inl e)) (λe=>hj (.inr e))).1
  ·rw [q];exact may_x.2.2
 ·obtain ⟨i,h,rfl⟩:=mem y hy
  refine p26 _ _ ?_
  rcases at1 i h with ⟨_,q⟩|⟨_,q⟩
  ·by_cases hj:(G++[ins 23 0 0 0])[i].op=20\/(G++[ins 23 0 0 0])[i].op=21
   ·obtain ⟨_,k,hk,e⟩:=q.jump hj
    rw [hT]at hk
    have hk:=hk.1
    have ho:∀o:Int,(o=20\/o=21)->Placed (ins o 0 (k:Int) 0) (G++[ins 23 0 0 0]).length:=λo ho=>by
     have e0:(ins o 0 (k:Int) 0).op=o:=rfl
     refine ⟨λq=>?_,λq=>?_,λq=>?_,λ_=>?_⟩
     ·rw [e0]at q;omega
     ·rw [e0]at q;omega
     ·rw [e0]at q;omega
     ·show (k:Int)<_
      omega
    rw [e];exact ho _ hj
   ·exact (q.may (λe=>hj (.inl e)) (λe=>hj (.inr e))).2 _
  ·rw [q];exact pl1 23 rfl (by decide) _
 ·rcases at1 i h with ⟨hi,q⟩|⟨_,q⟩
  ·have h27:=p27 (G++[ins 23 0 0 0])[i]
   have e1:=Int.toNat_of_nonneg q.lo.1
   have e2:=Int.toNat_of_nonneg q.lo.2
   rw [←e1,←e2]at h27
   refine ⟨_,_,h27,q.le,q.up,λhj=>?_,λ_ _=>⟨by omega,run_succ _ i h 0⟩⟩
   obtain ⟨h0,k,hk,e⟩:=q.jump hj
   rw [hT]at hk
   refine ⟨k,by rw [e];rfl,hk.1,?_⟩
   exact hk.2.trans h0.symm
  ·have h27:=p27 (ins 23 0 0 0)
   rw [q]
   exact ⟨0,0,h27,Nat.zero_le _,by have:=Nat.zero_le 16;show run 0 _-0+0<=16;rw [show i=G.length by omega,List.take_left,hr0];exact this,λhj=>absurd hj (show ¬((23:Int)=20\/(23:Int)=21) by decide),λ_ hn=>absurd rfl hn⟩
def c4:VC:=⟨⟨[],[]⟩,[(6,[none]),(8,[none,none]),(13,[none])],[],0,true,[(7,ft7)]⟩
def t4:VT:=
 (.call 6 [] 65 [none]
 (.lt (.un .not) [65] 66 none
 (.ite 66
 (.done (.bool false))
 (.lt (.len 22) [64] 67 none
 (.lt (.bin .gtr 3 false true) [67,J 200] 68 none
 (.ite 68
 (.done (.bool true))
 (.callF 7 ft7 [64] 69
 (.cons 3
 (.lt (.un .not) [72] 73 none
 (.ite 73
 (.done (.bool true))
 (.call 8 [.agg [70,71]] 74 [none,none]
 (.lt (.bin .neq 31 false true) [75,J 0] 76 none
 (.ite 76
 (.lt (.bin .eql 31 false true) [75,J 12] 77 none
 (.ite 77
 (.lt (.len 30) [74] 78 none
 (.lt (.bin .eql 3 false true) [78,J 0] 79 none
 (.done (79))))
 (.done (.bool false))))
 (.call 13 [74,J 21] 77 [none]
 (.lt (.bin .eql 31 false true) [77,J 0] 78 none
 (.done (78)))))))))
 .nil))))))))
theorem p4 {l:List UInt8} {a:AV} (hp:Pk l a):Pure Try.prog 4 [a] (.bool true):=by
 have hA:=hp.1.ok okC8
 refine pure_shape (sh:=[none]) (ls:=[a]) (c:=c4) (n:=300) (t:=t4) mo ov rfl (by simp only [okL,hA]) rfl (λY _=>known0 _) rfl (by kernel_rfl) λY hf hg=>?_
 unfold t4
 refine VOK_call k6 rfl rfl (VOK_lt rfl rfl (VOK_ite rfl (λh=>by cases h) (λ_=>?_)))
 refine VOK_lt (len22 hp) rfl (VOK_lt (run_gtr ..) rfl (VOK_ite rfl (λ_=>VOK_done rfl) (λ_=>?_)))
 refine callF' (p7 hp) rfl (by simp only [okL,hA]) ⟨?_,trivial⟩
 rintro ws ⟨v,b,e,rfl,hv,hb⟩
 refine VOK_lt (run_not ..) rfl (VOK_ite rfl (λh=>VOK_done rfl) (λh=>?_))
 obtain ⟨rfl,hb5,hT⟩:=hb (by simpa using h)
 have hsl:SlV encS 27 b (encB b):=by rw [encB_eq];exact SlV.of b
 have hbl:=genSs3 hb5 hT 0
 have h8:=p8 (v:=VARS) rfl hsl hb5 hT (by omega)
 have hpl:=okPl b
 refine VOK_call h8 rfl (by simp only [okL,okC,hpl]) ?_
 by_cases h400:(genP b).length<=400
 ·have hpe:pe b=0:=by unfold pe;rw [if_pos h400]
  have hplb:pl b=insts (genP b):=by unfold pl;rw [if_pos h400]
  rw [hpe,hplb]
  refine VOK_lt (r:=.bool false) (by rfl) rfl (ite_F rfl ?_)
  exact VOK_call (p13 _ _ (stands hT h400)) rfl rfl (VOK_lt (r:=.bool true) (by rfl) rfl (VOK_done rfl))
 ·have hpe:pe b=12:=by unfold pe;rw [if_neg h400]
  have hplb:pl b=.nsl:=by unfold pl;rw [if_neg h400]
  rw [hpe,hplb]
  refine VOK_lt (r:=.bool true) (by rfl) rfl (ite_T rfl (VOK_lt (r:=.bool true) (by rfl) rfl (ite_T rfl ?_)))
  exact VOK_lt (run_len30 []) rfl (VOK_lt (run_eql ..) rfl (VOK_done rfl))
theorem q4 {l:List UInt8} {x:AV} (sl:SlV encC 1 l x) (m:l.length<=maxLen):Pure Try.prog 4 [x] (.bool true):=
 p4 ⟨sl,by simp only [maxLen]at m;omega⟩
end Go.Proofs.Ytjconanknjgpnaa.vars
