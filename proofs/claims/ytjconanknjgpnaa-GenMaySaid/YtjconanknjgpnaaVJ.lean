/-
  Verify: instructions of which each has one height stand.
-/
import Derived.Test.YtjconanknjgpnaaV6
import Derived.Test.YtjconanknjgpnaaFA
import Derived.KernelRfl
set_option maxRecDepth 100000
set_option linter.unusedVariables false
set_option linter.unusedSimpArgs false
namespace Go.Proofs.Ytjconanknjgpnaa.vars
open Go Go.Sx
def encR (f:Nat->Bool):List AV:=(List.range 17).map λh=>.bool (f h)
theorem lenR (f:Nat->Bool):(encR f).length=17:=by simp [encR]
theorem okRw (f:Nat->Bool):okL (encR f)=true:=rfl
theorem atR (f:Nat->Bool) {h:Nat} (hh:h<17):(encR f)[h]? =some (.bool (f h)):=by
 simp [encR,List.getElem?_map,List.getElem?_range hh]
theorem setRow (h:Nat):encR (λx=>decide (x=h))=(encR λ_=>false).set h (.bool true):=by
 apply List.ext_getElem
 ·simp [encR]
 intro i h1 h2
 simp only [encR,List.getElem_map,List.getElem_range,List.getElem_set]
 by_cases e:h=i
 ·subst e;simp
 ·have e':¬i=h:=λq=>e q.symm
  simp [e,e']
def encQ (x:Nat×Nat):List AV:=[.int .i64 (x.1:Int),.int .i64 (x.2:Int)]
theorem lenQ (x:Nat×Nat):(encQ x).length=2:=rfl
theorem okQu (x:Nat×Nat):okL (encQ x)=true:=rfl
def row1 (ht:Nat->Nat) (S:Nat->Bool) (i:Nat):Nat->Bool:=λh=>S i&&decide (h=ht i)
def rows (n:Nat) (ht:Nat->Nat) (S:Nat->Bool):List (Nat->Bool):=(List.range n).map (row1 ht S)
theorem rows_len (n:Nat) (ht:Nat->Nat) (S:Nat->Bool):(rows n ht S).length=n:=by simp [rows]
theorem rows_at {n:Nat} (ht:Nat->Nat) (S:Nat->Bool) {i:Nat} (h:i<(rows n ht S).length):(rows n ht S)[i]=row1 ht S i:=by simp [rows]
def upd (S:Nat->Bool) (i:Nat):Nat->Bool:=λj=>S j||decide (j=i)
theorem rows_set {n:Nat} (ht:Nat->Nat) (S:Nat->Bool) (i:Nat):(rows n ht S).set i (row1 ht (upd S i) i)=rows n ht (upd S i):=by
 apply List.ext_getElem
 ·simp [rows]
 intro j h1 h2
 simp only [rows,List.getElem_map,List.getElem_range,List.getElem_set]
 by_cases e:i=j
 ·subst e;simp
 ·have e':¬j=i:=λq=>e q.symm
  rw [if_neg e]
  funext h
  simp [row1,upd,e']
def un (S:Nat->Bool):Nat->Nat
 |0=>0
 |n+1=>un S n+(if S n then 0 else 1)
theorem un_same (S:Nat->Bool) (i:Nat):∀n,n<=i->un (upd S i) n=un S n
 |0,_=>rfl
 |n+1,h=>by
  have e:¬n=i:=by omega
  simp only [un,un_same S i n (by omega),upd,e,decide_false,Bool.or_false]
theorem un_lt (S:Nat->Bool) (i:Nat) (hs:S i=false):∀n,i<n->un (upd S i) n+1=un S n
 |0,h=>by omega
 |n+1,h=>by
  by_cases e:n=i
  ·subst e
   simp only [un,un_same S n n (Nat.le_refl _),upd,hs]
   simp
  ·have:=un_lt S i hs n (by omega)
   have e2:upd S i n=S n:=by simp [upd,e]
   simp only [un,e2];omega
def Goes (x:GI) (i h n:Nat) (ht:Nat->Nat):Prop:=((x.op=20\/x.op=21)->∃k:Nat,x.ad=(k:Int)/\k<n/\ht k=h)/\(x.op≠20->x.op≠23->i+1<n/\ht (i+1)=h)
structure Stands (l:List GI) (ht:Nat->Nat):Prop where
 n1:0<l.length
 n4:l.length<=400
 last:∀h:l.length-1<l.length,l[l.length-1].op=23
 zero:ht 0=0
 le:∀i,ht i<=16
 may:∀x∈l,Pure Try.prog 25 [.agg (encG x)] (.bool true)
 plc:∀x∈l,Pure Try.prog 26 [.agg (encG x),.int .i64 (l.length:Int),.int .i64 21] (.bool true)
 step:∀i (h:i<l.length),∃a b:Nat,Pure Try.prog 27 [.agg (encG l[i])] (.tup [.int .i64 (a:Int),.int .i64 (b:Int)])/\a<=ht i/\ht i-a+b<=16/\Goes l[i] i (ht i-a+b) l.length ht
theorem ia30v {l:List GI} {i:Nat} (h:i<l.length):(XOp.iaddr 30).run Try.prog [insts l,.int .i64 (i:Int)]=some (.vptr (encG l[i]++encL encG (l.drop (i+1)))):=by
 have:=run_iaddr_sl (P:=Try.prog) (enc:=encG) (e:=47) (ti:=(Try.prog.info? 47).get!) Try.underlying30 (by kernel_rfl) (by kernel_rfl) lenG h .i64
 rw [List.drop_eq_getElem_cons h]at this
 exact this
theorem okIv (x:GI) (l:List GI):okL (encG x++encL encG l)=true:=encL_ok okG (x::l)
theorem okIa {l:List GI} {i:Nat} (h:i<l.length):okL (encG l[i]++encL encG (l.drop (i+1)))=true:=okIv _ _
theorem ld47v (x:GI) (r:List AV):(XOp.load 47).run Try.prog [.vptr (encG x++r)]=some (.agg (encG x)):=by kernel_rfl
theorem fa47_0 (x:GI) (r:List AV):(XOp.faddr 47 0).run Try.prog [.vptr (encG x++r)]=some (.vptr (.int .i64 x.op::([.int .i64 x.kd,.int .i64 x.ad,.int .i64 x.n,.int .i64 x.vk,.int .i64 x.vi,.flt .f64 x.vf]++r))):=by kernel_rfl
theorem fa47_2 (x:GI) (r:List AV):(XOp.faddr 47 2).run Try.prog [.vptr (encG x++r)]=some (.vptr (.int .i64 x.ad::([.int .i64 x.n,.int .i64 x.vk,.int .i64 x.vi,.flt .f64 x.vf]++r))):=by kernel_rfl
theorem okRest (a:List AV) (ha:okL a=true) (l:List GI):okL (a++encL encG l)=true:=by
 have:=encL_ok okG l
 induction a with
 |nil=>exact this
 |cons x r ih=>
  rw [okL_cons]at ha
  obtain ⟨k1,k2⟩:=and_split ha
  rw [List.cons_append,okL_cons,k1,ih k2];rfl
theorem ld3v (x:AV) (r:List AV):(XOp.load 3).run Try.prog [.vptr (x::r)]=some x:=run_load_one Try.underlying3 rfl x r
theorem same_v {α β:Type} {e1:α->List AV} {e2:β->List AV} {w:Nat} {Y:Sy} {i j:Nat} {l:List α} {l':List β} (h1:Y.v i=some (vslOf e1 w l)) (h2:Y.v j=some (vslOf e2 w l')) (h:l.length=l'.length):(Chk.same i j).ok Y:=
 .inr ⟨l.length,w,_,_,h1,by rw [h2];show some (AV.vsl l'.length w _)=_;rw [h]⟩
section
variable {Q:AV->Prop} {L:List (Nat->List AV->Prop)} {Y:Sy}
theorem ite_F {i:Nat} {a b:VT} (h:Y.v i=some (.bool false)) (h2:VOK Try.prog Q L Y b):VOK Try.prog Q L Y (.ite i a b):=VOK_ite h (λh=>by cases h) (λ_=>h2)
theorem ite_T {i:Nat} {a b:VT} (h:Y.v i=some (.bool true)) (h2:VOK Try.prog Q L Y a):VOK Try.prog Q L Y (.ite i a b):=VOK_ite h (λ_=>h2) (λh=>by cases h)
end
theorem neq_f {x y:Int} (h:x=y) {t:TypeId} {cx cy:Bool}:(XOp.bin .neq t cx cy).run Try.prog [.int .i64 x,.int .i64 y]=some (.bool false):=by rw [run_neq,h];simp
theorem neq_t {x y:Int} (h:x≠y) {t:TypeId} {cx cy:Bool}:(XOp.bin .neq t cx cy).run Try.prog [.int .i64 x,.int .i64 y]=some (.bool true):=by rw [run_neq];simp [h]
theorem lss_f {x y:Int} (h:¬x<y) {t:TypeId} {cx cy:Bool}:(XOp.bin .lss t cx cy).run Try.prog [.int .i64 x,.int .i64 y]=some (.bool false):=by rw [run_lss];simp [h]
theorem gtr_f {x y:Int} (h:¬y<x) {t:TypeId} {cx cy:Bool}:(XOp.bin .gtr t cx cy).run Try.prog [.int .i64 x,.int .i64 y]=some (.bool false):=by rw [run_gtr];simp [h]
theorem gtr_t {x y:Int} (h:y<x) {t:TypeId} {cx cy:Bool}:(XOp.bin .gtr t cx cy).run Try.prog [.int .i64 x,.int .i64 y]=some (.bool true):=by rw [run_gtr];simp [h]
theorem un_ext {S S':Nat->Bool}:∀n,(∀i,i<n->S i=S' i)->un S n=un S' n
 |0,_=>rfl
 |n+1,h=>by simp only [un,h n (by omega),un_ext n λi hi=>h i (by omega)]
theorem len74 (l:List (Nat×Nat)):(XOp.len 74).run Try.prog [vslOf encQ 2 l]=some (.int .i64 (l.length:Int)):=by
 by_cases h:l=[]
 ·subst h;kernel_rfl
 ·have e:vslOf encQ 2 l=sliceOf encQ 2 l:=by
    cases l with
    |nil=>exact absurd rfl h
    |cons a r=>rfl
  rw [e];exact run_len_sl Try.underlying74 l
def qu (ht:Nat->Nat) (q:List Nat):List (Nat×Nat):=q.map λi=>(i,ht i)
def c13:VC:=⟨⟨[],[]⟩,[(25,[none]),(26,[none]),(27,[none,none])],[(0,[⟨[(5,.slx 0 0 0),(0,64),(1,65),(6,.slx 1 0 0)],[],0,2,[],[],[]⟩]),(2,[⟨[(7,.slx 0 17 0),(0,64),(8,.slx 1 2 1)],[],2,2,[⟨0,17,0,7,none⟩,⟨1,2,1,8,none⟩],[],[]⟩]),(4,[⟨[(7,.ptx 0 83 17 0),(13,.slx 0 0 0),(0,64)],[],1,1,[],[],[(0,83)]⟩]),(6,[⟨[(15,.slx 0 0 0),(14,.slx 1 0 0),(13,.slx 2 0 0),(7,.ptx 0 83 17 0),(0,64)],[],1,3,[],[],[(0,83)]⟩])],0,true,[]⟩
def t13:VT:=
 (.lt (.len 30) [64] 66 none
 (.lt (.bin .lss 3 false true) [66,J 1] 67 none
 (.ite 67
 (.done (J 2))
 (.lt (.len 30) [64] 68 none
 (.lt (.bin .gtr 3 false true) [68,J 400] 69 none
 (.ite 69
 (.done (J 2))
 (.lt (.len 30) [64] 70 none
 (.lt (.bin .sub 3 false true) [70,J 1] 71 none
 (.lt (.iaddr 30) [64,71] 72 none
 (.lt (.faddr 47 0) [72] 73 none
 (.lt (.load 3) [73] 74 none
 (.lt (.bin .neq 3 false true) [74,J 23] 75 none
 (.ite 75
 (.done (J 2))
 (.loop 76 0 [.bool true,J 0]
 (.cons 2
 (.lt (.len 30) [64] 78 none
 (.lt (.bin .lss 3 false false) [77,78] 79 none
 (.ite 79
 (.lt (.iaddr 30) [64,77] 80 none
 (.lt (.load 47) [80] 81 (some 7)
 (.call 25 [.agg [81,82,83,84,85,86,87]] 88 [none]
 (.lt (.un .not) [88] 89 none
 (.ite 89
 (.done (J 2))
 (.ite 76
 (.lt (.iaddr 30) [64,77] 90 none
 (.lt (.load 47) [90] 91 (some 7)
 (.lt (.len 30) [64] 98 none
 (.call 26 [.agg [91,92,93,94,95,96,97],98,65] 99 [none]
 (.lt (.bin .add 3 false true) [77,J 1] 100 none
 (.again 0 0 [99,100]))))))
 (.lt (.bin .add 3 false true) [77,J 1] 90 none
 (.again 0 0 [.bool false,90]))))))))
 (.lt (.un .not) [76] 80 none
 (.ite 80
 (.done (J 6))
 (.lt (.len 30) [64] 81 none
 (.lt (.mkx 17 17 [.bool false,.bool false,.bool false,.bool false,.bool false,.bool false,.bool false,.bool false,.bool false,.bool false,.bool false,.bool false,.bool false,.bool false,.bool false,.bool false,.bool false]) [81] 82 none
 (.loop 83 0 [82,.vsl 1 2 [J 0,J 0]]
 (.cons 2
 (.lt (.len 74) [84] 85 none
 (.lt (.bin .gtr 3 false true) [85,J 0] 86 none
 (.ite 86
 (.lt .inb [84,J 0] 87 none
 (.lt (.flat 2 0 1 2) [87,J 0] 88 none
 (.lt (.ldx 3 1 0) [84,88] 89 none
 (.lt .inb [84,J 0] 90 none
 (.lt (.flat 2 0 1 2) [90,J 1] 91 none
 (.lt (.ldx 3 1 0) [84,91] 92 none
 (.lt .skx [84,J 1] 93 none
 (.lt .inb [83,89] 94 none
 (.lt (.flat 17 0 1 17) [94,92] 95 none
 (.lt (.ldx 4 1 0) [83,95] 96 none
 (.ite 96
 (.again 1 0 [83,93])
 (.lt .inb [83,89] 97 none
 (.lt (.flat 17 0 1 17) [97,92] 98 none
 (.lt (.stx 4 1 0) [83,98,.bool true] 99 none
 (.lt (.iaddr 30) [64,89] 100 none
 (.lt (.load 47) [100] 101 (some 7)
 (.call 27 [.agg [101,102,103,104,105,106,107]] 108 [none,none]
 (.lt (.bin .lss 3 false false) [92,108] 110 none
 (.ite 110
 (.done (J 12))
 (.lt (.bin .sub 3 false false) [92,108] 111 none
 (.lt (.bin .add 3 false false) [111,109] 112 none
 (.lt (.bin .gtr 3 false true) [112,J 16] 113 none
 (.ite 113
 (.done (J 12))
 (.lt (.bin .sub 3 false false) [92,108] 114 none
 (.lt (.bin .add 3 false false) [114,109] 115 none
 (.lt (.iaddr 30) [64,89] 116 none
 (.lt (.faddr 47 0) [116] 117 none
 (.lt (.load 3) [117] 118 none
 (.lt (.bin .eql 3 false true) [118,J 20] 119 none
 (.ite 119
 (.lt (.iaddr 30) [64,89] 120 none
 (.lt (.faddr 47 2) [120] 121 none
 (.lt (.load 3) [121] 122 none
 (.lt (.app 2 16) [93,.agg [122,115]] 123 none
 (.lt (.iaddr 30) [64,89] 124 none
 (.lt (.faddr 47 0) [124] 125 none
 (.lt (.load 3) [125] 126 none
 (.lt (.bin .neq 3 false true) [126,J 20] 127 none
 (.ite 127
 (.lt (.iaddr 30) [64,89] 128 none
 (.lt (.faddr 47 0) [128] 129 none
 (.lt (.load 3) [129] 130 none
 (.lt (.bin .neq 3 false true) [130,J 23] 131 none
 (.ite 131
 (.lt (.bin .add 3 false true) [89,J 1] 132 none
 (.lt (.app 2 16) [123,.agg [132,115]] 133 none
 (.chk (.same 83 99)
 (.again 1 0 [99,133]))))
 (.chk (.same 83 99)
 (.again 1 0 [99,123])))))))
 (.chk (.same 83 99)
 (.again 1 0 [99,123])))))))))))
 (.lt (.iaddr 30) [64,89] 120 none
 (.lt (.faddr 47 0) [120] 121 none
 (.lt (.load 3) [121] 122 none
 (.lt (.bin .eql 3 false true) [122,J 21] 123 none
 (.ite 123
 (.lt (.iaddr 30) [64,89] 124 none
 (.lt (.faddr 47 2) [124] 125 none
 (.lt (.load 3) [125] 126 none
 (.lt (.app 2 16) [93,.agg [126,115]] 127 none
 (.lt (.iaddr 30) [64,89] 128 none
 (.lt (.faddr 47 0) [128] 129 none
 (.lt (.load 3) [129] 130 none
 (.lt (.bin .neq 3 false true) [130,J 20] 131 none
 (.ite 131
 (.lt (.iaddr 30) [64,89] 132 none
 (.lt (.faddr 47 0) [132] 133 none
 (.lt (.load 3) [133] 134 none
 (.lt (.bin .neq 3 false true) [134,J 23] 135 none
 (.ite 135
 (.lt (.bin .add 3 false true) [89,J 1] 136 none
 (.lt (.app 2 16) [127,.agg [136,115]] 137 none
 (.chk (.same 83 99)
 (.again 1 0 [99,137]))))
 (.chk (.same 83 99)
 (.again 1 0 [99,127])))))))
 (.chk (.same 83 99)
 (.again 1 0 [99,127])))))))))))
 (.lt (.iaddr 30) [64,89] 124 none
 (.lt (.faddr 47 0) [124] 125 none
 (.lt (.load 3) [125] 126 none
 (.lt (.bin .neq 3 false true) [126,J 20] 127 none
 (.ite 127
 (.lt (.iaddr 30) [64,89] 128 none
 (.lt (.faddr 47 0) [128] 129 none
 (.lt (.load 3) [129] 130 none
 (.lt (.bin .neq 3 false true) [130,J 23] 131 none
 (.ite 131
 (.lt (.bin .add 3 false true) [89,J 1] 132 none
 (.lt (.app 2 16) [93,.agg [132,115]] 133 none
 (.chk (.same 83 99)
 (.again 1 0 [99,133]))))
 (.chk (.same 83 99)
 (.again 1 0 [99,93])))))))
 (.chk (.same 83 99)
 (.again 1 0 [99,93]))))))))))))))))))))))))))))))))))))))))))
 (.loop 87 0 [J 0]
 (.cons 1
 (.lt (.len 30) [64] 88 none
 (.lt (.bin .lss 3 false false) [87,88] 89 none
 (.ite 89
 (.loop 90 0 [J 0,J 0,87]
 (.cons 3
 (.lt (.bin .leq 3 false true) [90,J 16] 93 none
 (.ite 93
 (.lt .inb [83,92] 94 none
 (.lt (.flat 17 0 1 17) [94,90] 95 none
 (.lt (.ldx 4 1 0) [83,95] 96 none
 (.ite 96
 (.lt (.bin .add 3 false true) [91,J 1] 97 none
 (.lt (.bin .add 3 false true) [90,J 1] 98 none
 (.again 3 0 [98,97,92])))
 (.lt (.bin .add 3 false true) [90,J 1] 97 none
 (.again 3 0 [97,91,92]))))))
 (.lt (.bin .gtr 3 false true) [91,J 1] 94 none
 (.ite 94
 (.done (J 4))
 (.lt (.bin .add 3 false true) [92,J 1] 95 none
 (.again 2 0 [95]))))))
 .nil))
 (.done (J 0)))))
 .nil)))))
 .nil)))))))))
 .nil)))))))))))))))
theorem p13 (l:List GI) (ht:Nat->Nat) (hs:Stands l ht):Pure Try.prog 13 [insts l,.int .i64 21] (.int .i64 0):=by
 have n1:=hs.n1
 have n4:=hs.n4
 refine pure_shape (sh:=[none,none]) (ls:=[insts l,.int .i64 21]) (c:=c13) (n:=300) (t:=t13) mo ov rfl (by simp only [okL,okC,okI]) rfl (λY _=>known0 _) rfl (by kernel_rfl) λY hf hg=>?_
 unfold t13
 refine VOK_lt (run_len30 l) rfl (VOK_lt (lss_f (by omega)) rfl (ite_F rfl ?_))
 refine VOK_lt (run_len30 l) rfl (VOK_lt (gtr_f (by omega)) rfl (ite_F rfl ?_))
 have hl1:l.length-1<l.length:=by omega
 refine VOK_lt (run_len30 l) rfl (VOK_lt (sub_c (z:=((l.length-1:Nat):Int)) (by omega) (by omega) (by omega)) rfl ?_)
 refine VOK_lt (ia30v hl1) (okIa hl1) (VOK_lt (fa47_0 ..) (okRest _ rfl _) (VOK_lt (ld3v ..) rfl ?_))
 refine VOK_lt (neq_f (hs.last hl1)) rfl (ite_F rfl ?_)
 refine VOK_loop (ι:=Nat) (λi=>[.bool true,.int .i64 (i:Int)]) (λi=>i<=l.length) (λi=>l.length-i) 0 (Nat.zero_le _) rfl (λi _=>rfl) (λi j _ _ h=>?_) (λi hi=>?_)
 ·have h:=(AV.int.inj (List.cons.inj (List.cons.inj h).2).1).2;omega
 refine VOK_lt (run_len30 l) rfl (VOK_lt (run_lss ..) rfl (VOK_ite rfl (λhlt=>?_) (λhlt=>?_)))
 ·have hlt:i<l.length:=by simp only [decide_eq_true_eq]at hlt;omega
  have hm:=List.getElem_mem hlt
  refine VOK_lt (ia30v hlt) (okIa hlt) (VOK_ltN (ld47v ..) rfl rfl (VOK_call (hs.may _ hm) rfl rfl (VOK_lt (run_not ..) rfl (ite_F rfl (ite_T rfl ?_)))))
  refine VOK_lt (ia30v hlt) (okIa hlt) (VOK_ltN (ld47v ..) rfl rfl (VOK_lt (run_len30 l) rfl (VOK_call (hs.plc _ hm) rfl rfl ?_)))
  exact VOK_lt (add_c (by omega) (by omega)) rfl (VOK_again rfl ⟨i+1,hlt,rfl,by omega⟩)
 refine VOK_lt (run_not ..) rfl (ite_F rfl (VOK_lt (run_len30 l) rfl ?_))
 have hmk:=run_mkx (P:=Try.prog) (sz:=17) (bytes:=17) (enc:=encR) (x:=λ_=>false) rfl (n:=l.length) (by omega) (by omega) (k:=.i64)
 have hr0:List.replicate l.length (λ_=>false)=rows l.length ht (λ_=>false):=by
  apply List.ext_getElem
  ·simp [rows]
  intro j h1 h2
  simp only [rows,List.getElem_replicate,List.getElem_map]
  rfl
 rw [hr0]at hmk
 refine VOK_lt hmk (encL_ok okRw _) ?_
 have hun:∀n,un (λ_=>false) n=n:=by
  intro n
  induction n with
  |zero=>rfl
  |succ n ih=>simp only [un,ih];rfl
 refine VOK_loop (ι:=(Nat->Bool)×List Nat) (λx=>[vslOf encR 17 (rows l.length ht x.1),vslOf encQ 2 (qu ht x.2)]) (λx=>(∀i∈x.2,i<l.length)/\2*un x.1 l.length+x.2.length<=2*l.length+1) (λx=>2*un x.1 l.length+x.2.length) (λ_=>false,[0])
  ⟨λi hi=>by cases List.mem_singleton.1 hi;exact n1,by rw [hun];exact Nat.le_refl _⟩ (by show _=[_,vslOf encQ 2 [(0,ht 0)]];rw [hs.zero];rfl)
  (λx _=>by simp only [okL,okC,vslOf,encL_ok okRw,encL_ok okQu]) (λx y _ _ h=>?_) (λx hx=>?_)
 ·obtain ⟨S,q⟩:=x
  obtain ⟨S',q'⟩:=y
  have h1:=(List.cons.inj h).1
  have h2:=(List.cons.inj (List.cons.inj h).2).1
  simp only
  have hlen:q.length=q'.length:=by
   have:=(AV.vsl.inj h2).1
   simpa [qu]using this
  have hS:∀i,i<l.length->S i=S' i:=λi hi=>by
   have h17:ht i<17:=by have:=hs.le i;omega
   have g:∀S:Nat->Bool,(XOp.ldx 4 1 0).run Try.prog [vslOf encR 17 (rows l.length ht S),.int .i64 ((i*17+ht i:Nat):Int)]=some (.bool (S i)):=λS=>by
    have hra:i<(rows l.length ht S).length:=by rw [rows_len];exact hi
    exact run_ldq Try.underlying4 rfl lenR hra (by rw [rows_at,atR _ h17];simp [row1]) rfl .i64
   have h1':vslOf encR 17 (rows l.length ht S)=vslOf encR 17 (rows l.length ht S'):=h1
   have q1:=g S
   rw [h1',g S']at q1
   exact (AV.bool.inj (Option.some.inj q1)).symm
  rw [un_ext _ hS,hlen]
 obtain ⟨S,q⟩:=x
 obtain ⟨hq,hm⟩:=hx
 simp only at hq hm
 refine VOK_lt (len74 _) rfl ?_
 cases q with
 |nil=>
  refine VOK_lt (gtr_f (by simp [qu])) rfl (ite_F rfl ?_)
  exact by
   refine VOK_loop (ι:=Nat) (λi=>[.int .i64 (i:Int)]) (λi=>i<=l.length) (λi=>l.length-i) 0 (Nat.zero_le _) rfl (λi _=>rfl) (λi j _ _ h=>by have h:=(AV.int.inj (List.cons.inj h).1).2;omega) (λi hi=>?_)
   refine VOK_lt (run_len30 l) rfl (VOK_lt (run_lss ..) rfl (VOK_ite rfl (λhlt=>?_) (λhlt=>VOK_done rfl)))
   have hlt:i<l.length:=by simp only [decide_eq_true_eq]at hlt;omega
   have hri:i<(rows l.length ht S).length:=by rw [rows_len];exact hlt
   refine VOK_loop (ι:=Nat) (λh=>[.int .i64 (h:Int),.int .i64 ((if S i=true/\ht i<h then 1 else 0:Nat):Int),.int .i64 (i:Int)]) (λh=>h<=17) (λh=>17-h) 0 (Nat.zero_le _) (by have e:¬(S i=true/\ht i<0):=(λq=>by omega);simp only [if_neg e];rfl) (λh _=>rfl) (λi j _ _ h=>by have h:=(AV.int.inj (List.cons.inj h).1).2;omega) (λh hh=>?_)
   refine VOK_lt (run_leq ..) rfl (VOK_ite rfl (λhle=>?_) (λhle=>?_))
   ·have hle:h<17:=by simp only [decide_eq_true_eq]at hle;omega
    have hv:(encR (rows l.length ht S)[i])[h]? =some (.bool (row1 ht S i h)):=by rw [rows_at,atR _ hle]
    refine VOK_lt (run_inbv (i:=i) hri .i64) rfl (VOK_lt (run_flat (m:=h) hle) rfl (VOK_lt (run_ldq Try.underlying4 rfl lenR hri hv (by omega) .i64) rfl (VOK_ite rfl (λhb=>?_) (λhb=>?_))))
    ·have hb:S i=true/\h=ht i:=by simpa [row1]using hb
     refine VOK_lt (add_c (by split<;>omega) (by split<;>omega)) rfl (VOK_lt (add_c (by omega) (by omega)) rfl (VOK_again rfl ⟨h+1,hle,?_,by omega⟩))
     have e1:¬(S i=true/\ht i<h):=λq=>by omega
     have e2:S i=true/\ht i<h+1:=⟨hb.1,by omega⟩
     simp only [if_neg e1,if_pos e2];rfl
    ·have hb:¬(S i=true/\h=ht i):=by
       intro q
       have:row1 ht S i h=true:=by simp [row1,q.1,q.2]
       rw [show row1 ht S i h=false from hb]at this;cases this
     refine VOK_lt (add_c (by omega) (by omega)) rfl (VOK_again rfl ⟨h+1,hle,?_,by omega⟩)
     have e:(S i=true/\ht i<h+1)↔(S i=true/\ht i<h):=⟨λq=>⟨q.1,by
      have:¬h=ht i:=λe=>hb ⟨q.1,e⟩
      omega⟩,λq=>⟨q.1,by omega⟩⟩
     simp only [e];rfl
   ·refine VOK_lt (gtr_f (by split<;>omega)) rfl (ite_F rfl (VOK_lt (add_c (by omega) (by omega)) rfl (VOK_again rfl ⟨i+1,hlt,rfl,by omega⟩)))
 |cons at' q=>
  have hat:at'<l.length:=hq at' (List.mem_cons_self ..)
  have hrl:=rows_len l.length ht S
  have h17:ht at'<17:=by have:=hs.le at';omega
  have hx0:0<(qu ht (at'::q)).length:=by simp [qu]
  have hra:at'<(rows l.length ht S).length:=by omega
  refine VOK_lt (gtr_t (Int.ofNat_lt.2 hx0)) rfl (ite_T rfl ?_)
  refine VOK_lt (run_inbv (i:=0) hx0 .i64) rfl (VOK_lt (run_flat (m:=0) (by decide)) rfl (VOK_lt (run_ldq (v:=.int .i64 (at':Int)) Try.underlying3 rfl lenQ hx0 (i:=0) (off:=0) rfl rfl .i64) rfl ?_))
  refine VOK_lt (run_inbv (i:=0) hx0 .i64) rfl (VOK_lt (run_flat (m:=1) (by decide)) rfl (VOK_lt (run_ldq (v:=.int .i64 (ht at':Int)) Try.underlying3 rfl lenQ hx0 (i:=0) (off:=1) rfl rfl .i64) rfl ?_))
  refine VOK_lt (run_skx1 lenQ (at',ht at') (qu ht q)) (encL_ok okQu _) ?_
  have hv:(encR (rows l.length ht S)[at'])[ht at']? =some (.bool (S at')):=by
   rw [rows_at,atR _ h17];simp [row1]
  refine VOK_lt (run_inbv (i:=at') hra .i64) rfl (VOK_lt (run_flat (m:=ht at') h17) rfl (VOK_lt (run_ldq Try.underlying4 rfl lenR hra hv (by omega) .i64) rfl ?_))
  simp only [List.length_cons]at hm
  refine VOK_ite rfl (λhS=>?_) (λhS=>?_)
  ·exact VOK_again rfl ⟨(S,q),⟨λi hi=>hq i (List.mem_cons_of_mem _ hi),by simp only;omega⟩,rfl,by simp only [List.length_cons];omega⟩
  have hS:S at'=false:=hS
  have hy:encR (row1 ht (upd S at') at')=(encR (rows l.length ht S)[at']).set (ht at') (.bool true):=by
   rw [rows_at]
   have e1:row1 ht (upd S at') at'=λx=>decide (x=ht at'):=by funext x;simp [row1,upd]
   have e2:row1 ht S at'=λ_=>false:=by funext x;simp [row1,hS]
   rw [e1,e2,setRow]
  have hst:=run_stq (P:=Try.prog) (t:=4) (ti:=(Try.prog.info? 4).get!) lenR hra (b:=true) (y:=row1 ht (upd S at') at') (by kernel_rfl) (by kernel_rfl) h17 hy rfl .i64
  rw [rows_set]at hst
  have hul:=un_lt S at' hS l.length hat
  refine VOK_lt (run_inbv (i:=at') hra .i64) rfl (VOK_lt (run_flat (m:=ht at') h17) rfl ?_)
  rw [show at'*17+0+ht at'*1=at'*17+ht at' by omega]
  refine VOK_lt hst (encL_ok okRw _) ?_
  obtain ⟨a,b,htk,h1,h2,hgo⟩:=hs.step at' hat
  refine VOK_lt (ia30v hat) (okIa hat) (VOK_ltN (ld47v ..) rfl rfl (VOK_call htk rfl rfl ?_))
  refine VOK_lt (lss_f (by omega)) rfl (ite_F rfl ?_)
  refine VOK_lt (sub_c (z:=((ht at'-a:Nat):Int)) (by omega) (by omega) (by omega)) rfl (VOK_lt (add_c (by omega) (by omega)) rfl (VOK_lt (gtr_f (by omega)) rfl (ite_F rfl ?_)))
  refine VOK_lt (sub_c (z:=((ht at'-a:Nat):Int)) (by omega) (by omega) (by omega)) rfl (VOK_lt (r:=.int .i64 ((ht at'-a+b:Nat):Int)) (add_c (by omega) (by omega)) rfl ?_)
  have sm:(rows l.length ht S).length=(rows l.length ht (upd S at')).length:=by rw [rows_len,rows_len]
  have hql:∀i∈q,i<l.length:=λi hi=>hq i (List.mem_cons_of_mem _ hi)
  have hap:∀(r:List Nat) (k:Nat),r.length<=1000->ht k=ht at'-a+b->(XOp.app 2 16).run Try.prog [vslOf encQ 2 (qu ht r),.agg [.int .i64 (k:Int),.int .i64 ((ht at'-a+b:Nat):Int)]]=some (vslOf encQ 2 (qu ht (r++[k]))):=λr k hr hk=>by
   have:=run_app1v (P:=Try.prog) (enc:=encQ) (sz:=2) (bytes:=16) lenQ (by decide) (by decide) (qu ht r) (k,ht k) (by simp only [qu,List.length_map];omega)
   have e:qu ht (r++[k])=qu ht r++[(k,ht k)]:=by simp [qu]
   rw [e]
   rw [hk]at this⊢
   exact this
  have hopr:∀(c:Int) (n:Nat),True:=λ_ _=>trivial
  refine VOK_lt (ia30v hat) (okIa hat) (VOK_lt (fa47_0 ..) (okRest _ rfl _) (VOK_lt (ld3v ..) rfl (VOK_lt (run_eql ..) rfl (VOK_ite rfl (λh20=>?_) (λh20=>?_)))))
  ·have h20:l[at'].op=20:=by simpa using h20
   obtain ⟨k,hk,hkl,hkh⟩:=hgo.1 (.inl h20)
   refine VOK_lt (ia30v hat) (okIa hat) (VOK_lt (fa47_2 ..) (okRest _ rfl _) (VOK_lt (ld3v ..) rfl ?_))
   rw [hk]
   refine VOK_lt (hap q k (by omega) hkh) (encL_ok okQu _) ?_
   refine VOK_lt (ia30v hat) (okIa hat) (VOK_lt (fa47_0 ..) (okRest _ rfl _) (VOK_lt (ld3v ..) rfl (VOK_lt (neq_f h20) rfl (ite_F rfl ?_))))
   refine VOK_chk (same_v rfl rfl sm) (VOK_again rfl ⟨(upd S at',q++[k]),⟨λi hi=>?_,by simp only [List.length_append,List.length_cons,List.length_nil];omega⟩,rfl,by simp only [List.length_append,List.length_cons,List.length_nil];omega⟩)
   rcases List.mem_append.1 hi with hi|hi
   ·exact hql i hi
   ·cases List.mem_singleton.1 hi;exact hkl
  have h20:l[at'].op≠20:=by simpa using h20
  refine VOK_lt (ia30v hat) (okIa hat) (VOK_lt (fa47_0 ..) (okRest _ rfl _) (VOK_lt (ld3v ..) rfl (VOK_lt (run_eql ..) rfl (VOK_ite rfl (λh21=>?_) (λh21=>?_)))))
  ·have h21:l[at'].op=21:=by simpa using h21
   have h23:l[at'].op≠23:=by rw [h21];decide
   obtain ⟨k,hk,hkl,hkh⟩:=hgo.1 (.inr h21)
   obtain ⟨hn1,hn2⟩:=hgo.2 h20 h23
   refine VOK_lt (ia30v hat) (okIa hat) (VOK_lt (fa47_2 ..) (okRest _ rfl _) (VOK_lt (ld3v ..) rfl ?_))
   rw [hk]
   refine VOK_lt (hap q k (by omega) hkh) (encL_ok okQu _) ?_
   refine VOK_lt (ia30v hat) (okIa hat) (VOK_lt (fa47_0 ..) (okRest _ rfl _) (VOK_lt (ld3v ..) rfl (VOK_lt (neq_t h20) rfl (ite_T rfl ?_))))
   refine VOK_lt (ia30v hat) (okIa hat) (VOK_lt (fa47_0 ..) (okRest _ rfl _) (VOK_lt (ld3v ..) rfl (VOK_lt (neq_t h23) rfl (ite_T rfl ?_))))
   refine VOK_lt (r:=.int .i64 ((at'+1:Nat):Int)) (add_c (by omega) (by omega)) rfl (VOK_lt (hap (q++[k]) (at'+1) (by simp only [List.length_append,List.length_cons,List.length_nil];omega) hn2) (encL_ok okQu _) ?_)
   refine VOK_chk (same_v rfl rfl sm) (VOK_again rfl ⟨(upd S at',q++[k]++[at'+1]),⟨λi hi=>?_,by simp only [List.length_append,List.length_cons,List.length_nil];omega⟩,rfl,by simp only [List.length_append,List.length_cons,List.length_nil];omega⟩)
   rcases List.mem_append.1 hi with hi|hi
   ·rcases List.mem_append.1 hi with hi|hi
    ·exact hql i hi
    ·cases List.mem_singleton.1 hi;exact hkl
   ·cases List.mem_singleton.1 hi;exact hn1
  have h21:l[at'].op≠21:=by simpa using h21
  refine VOK_lt (ia30v hat) (okIa hat) (VOK_lt (fa47_0 ..) (okRest _ rfl _) (VOK_lt (ld3v ..) rfl (VOK_lt (neq_t h20) rfl (ite_T rfl ?_))))
  refine VOK_lt (ia30v hat) (okIa hat) (VOK_lt (fa47_0 ..) (okRest _ rfl _) (VOK_lt (ld3v ..) rfl (VOK_lt (run_neq ..) rfl (VOK_ite rfl (λh23=>?_) (λh23=>?_)))))
  ·have h23:l[at'].op≠23:=by simpa using h23
   obtain ⟨hn1,hn2⟩:=hgo.2 h20 h23
   refine VOK_lt (r:=.int .i64 ((at'+1:Nat):Int)) (add_c (by omega) (by omega)) rfl (VOK_lt (hap q (at'+1) (by omega) hn2) (encL_ok okQu _) ?_)
   refine VOK_chk (same_v rfl rfl sm) (VOK_again rfl ⟨(upd S at',q++[at'+1]),⟨λi hi=>?_,by simp only [List.length_append,List.length_cons,List.length_nil];omega⟩,rfl,by simp only [List.length_append,List.length_cons,List.length_nil];omega⟩)
   rcases List.mem_append.1 hi with hi|hi
   ·exact hql i hi
   ·cases List.mem_singleton.1 hi;exact hn1
  ·exact VOK_chk (same_v rfl rfl sm) (VOK_again rfl ⟨(upd S at',q),⟨hql,by simp only;omega⟩,rfl,by simp only [List.length_cons];omega⟩)
end Go.Proofs.Ytjconanknjgpnaa.vars
set_option maxRecDepth 100000
set_option linter.unusedVariables false
set_option linter.unusedSimpArgs false
namespace Go.Proofs.Ytjconanknjgpnaa.vars
open Go Go.Sx
def c27:VC:=⟨⟨[],[]⟩,[],[],0,true,[]⟩
def t27:VT:=
 (.lt (.bin .eql 3 false true) [64,J 1] 71 none
 (.ite 71
 (.done (.tup [J 0,J 1]))
 (.lt (.bin .eql 3 false true) [64,J 2] 72 none
 (.ite 72
 (.done (.tup [J 0,J 1]))
 (.lt (.bin .eql 3 false true) [64,J 3] 73 none
 (.ite 73
 (.done (.tup [J 1,J 1]))
 (.lt (.bin .eql 3 false true) [64,J 17] 74 none
 (.ite 74
 (.done (.tup [J 1,J 1]))
 (.lt (.bin .eql 3 false true) [64,J 15] 75 none
 (.ite 75
 (.done (.tup [J 1,J 1]))
 (.lt (.bin .eql 3 false true) [64,J 16] 76 none
 (.ite 76
 (.done (.tup [J 1,J 1]))
 (.lt (.bin .eql 3 false true) [64,J 18] 77 none
 (.ite 77
 (.done (.tup [J 1,J 0]))
 (.lt (.bin .eql 3 false true) [64,J 21] 78 none
 (.ite 78
 (.done (.tup [J 1,J 0]))
 (.lt (.bin .eql 3 false true) [64,J 19] 79 none
 (.ite 79
 (.done (.tup [J 2,J 0]))
 (.lt (.bin .eql 3 false true) [64,J 20] 80 none
 (.ite 80
 (.done (.tup [J 0,J 0]))
 (.lt (.bin .eql 3 false true) [64,J 23] 81 none
 (.ite 81
 (.done (.tup [J 0,J 0]))
 (.lt (.bin .eql 3 false true) [64,J 22] 82 none
 (.ite 82
 (.done (.tup [67,J 0]))
 (.done (.tup [J 2,J 1]))))))))))))))))))))))))))
def takesF (x:GI):Int×Int:=
 if x.op=1\/x.op=2 then (0,1)else if x.op=3\/x.op=17\/x.op=15\/x.op=16 then (1,1)else if x.op=18\/x.op=21 then (1,0)else if x.op=19 then (2,0)else if x.op=20\/x.op=23 then (0,0)else if x.op=22 then (x.n,0)else (2,1)
theorem p27 (x:GI):Pure Try.prog 27 [.agg (encG x)] (.tup [.int .i64 (takesF x).1,.int .i64 (takesF x).2]):=by
 refine pure_shape (sh:=[some 7]) (ls:=encG x) (c:=c27) (n:=300) (t:=t27) mo ov rfl rfl rfl (λY _=>known0 _) rfl (by kernel_rfl) λY hf hg=>?_
 unfold t27
 repeat' (first
  |refine VOK_lt (run_eql ..) rfl ?_
  |refine VOK_ite rfl (λh=>?_) (λh=>?_)
  |refine VOK_done ?_)
 all_goals (simp only [decide_eq_true_eq,decide_eq_false_iff_not]at *; show AV.tup _=_;simp only [takesF, *];try rfl)
def c26:VC:=⟨⟨[],[]⟩,[(46,[none])],[],0,true,[]⟩
def t26:VT:=
 (.lt (.bin .eql 3 false true) [64,J 2] 73 none
 (.ite 73
 (.lt (.bin .lss 3 false false) [66,72] 74 none
 (.done (74)))
 (.lt (.bin .eql 3 false true) [64,J 18] 74 none
 (.ite 74
 (.lt (.bin .lss 3 false false) [66,72] 75 none
 (.done (75)))
 (.lt (.bin .eql 3 false true) [64,J 3] 75 none
 (.ite 75
 (.lt (.bin .add 3 false false) [66,67] 76 none
 (.lt (.bin .leq 3 false false) [76,72] 77 none
 (.done (77))))
 (.lt (.bin .eql 3 false true) [64,J 19] 76 none
 (.ite 76
 (.lt (.bin .add 3 false false) [66,67] 77 none
 (.lt (.bin .leq 3 false false) [77,72] 78 none
 (.done (78))))
 (.lt (.bin .eql 3 false true) [64,J 22] 77 none
 (.ite 77
 (.call 46 [65] 78 [none]
 (.lt (.bin .add 3 false false) [66,78] 79 none
 (.lt (.bin .leq 3 false false) [79,72] 80 none
 (.done (80)))))
 (.lt (.bin .eql 3 false true) [64,J 20] 78 none
 (.ite 78
 (.lt (.bin .lss 3 false false) [66,71] 79 none
 (.done (79)))
 (.lt (.bin .eql 3 false true) [64,J 21] 79 none
 (.ite 79
 (.lt (.bin .lss 3 false false) [66,71] 80 none
 (.done (80)))
 (.done (.bool true))))))))))))))))
def widV (k:Int):Int:=if k=6 then 4 else if k=9 then 3 else if k=11 then 2 else 0
theorem p46 (k:Int) (hk:k=6\/k=9\/k=11):Pure Try.prog 46 [.int .i64 k] (.int .i64 (widV k)):=by
 rcases hk with rfl|rfl|rfl
 ·exact memo_ok (n:=300) mo ov (by kernel_rfl)
 ·exact memo_ok (n:=300) mo ov (by kernel_rfl)
 ·exact memo_ok (n:=300) mo ov (by kernel_rfl)
def Placed (x:GI) (n:Nat):Prop:=
 (x.op=2\/x.op=18->x.ad<21)/\(x.op=3\/x.op=19->x.ad=8/\x.n=4)/\(x.op=22->(x.kd=6/\x.ad=12)\/(x.kd=9/\x.ad=16)\/(x.kd=11/\x.ad=19))/\(x.op=20\/x.op=21->x.ad<(n:Int))
theorem p26 (x:GI) (n:Nat) (h:Placed x n):Pure Try.prog 26 [.agg (encG x),.int .i64 (n:Int),.int .i64 21] (.bool true):=by
 obtain ⟨h1,h2,h3,h4⟩:=h
 refine pure_shape (sh:=[some 7,none,none]) (ls:=encG x++[.int .i64 (n:Int),.int .i64 21]) (c:=c26) (n:=300) (t:=t26) mo ov rfl rfl rfl (λY _=>known0 _) rfl (by kernel_rfl) λY hf hg=>?_
 unfold t26
 refine VOK_lt (run_eql ..) rfl (VOK_ite rfl (λe=>?_) (λe2=>?_))
 ·have:=h1 (.inl (by simpa using e))
  refine VOK_lt (run_lss ..) rfl (VOK_done ?_)
  show AV.bool (decide _)=_
  simp [this]
 refine VOK_lt (run_eql ..) rfl (VOK_ite rfl (λe=>?_) (λe18=>?_))
 ·have:=h1 (.inr (by simpa using e))
  refine VOK_lt (run_lss ..) rfl (VOK_done ?_)
  show AV.bool (decide _)=_
  simp [this]
 refine VOK_lt (run_eql ..) rfl (VOK_ite rfl (λe=>?_) (λe3=>?_))
 ·obtain ⟨q1,q2⟩:=h2 (.inl (by simpa using e))
  refine VOK_lt (r:=.int .i64 12) (by rw [←show (8:Int)+4=12 from rfl,←q1,←q2];exact add_c (by omega) (by omega)) rfl (VOK_lt (run_leq ..) rfl (VOK_done ?_))
  rfl
 refine VOK_lt (run_eql ..) rfl (VOK_ite rfl (λe=>?_) (λe19=>?_))
 ·obtain ⟨q1,q2⟩:=h2 (.inr (by simpa using e))
  refine VOK_lt (r:=.int .i64 12) (by rw [←show (8:Int)+4=12 from rfl,←q1,←q2];exact add_c (by omega) (by omega)) rfl (VOK_lt (run_leq ..) rfl (VOK_done ?_))
  rfl
 refine VOK_lt (run_eql ..) rfl (VOK_ite rfl (λe=>?_) (λe22=>?_))
 ·have q:=h3 (by simpa using e)
  refine VOK_call (p46 x.kd (by omega)) rfl rfl ?_
  have q2:x.ad+widV x.kd<=21/\0<=x.ad+widV x.kd:=by
   rcases q with ⟨a,b⟩|⟨a,b⟩|⟨a,b⟩<;>rw [a,b]<;>decide
  refine VOK_lt (add_c (by omega) (by omega)) rfl (VOK_lt (run_leq ..) rfl (VOK_done ?_))
  show AV.bool (decide _)=_
  simp [q2.1]
 refine VOK_lt (run_eql ..) rfl (VOK_ite rfl (λe=>?_) (λe20=>?_))
 ·have:=h4 (.inl (by simpa using e))
  refine VOK_lt (run_lss ..) rfl (VOK_done ?_)
  show AV.bool (decide _)=_
  simp [this]
 refine VOK_lt (run_eql ..) rfl (VOK_ite rfl (λe=>?_) (λe21=>?_))
 ·have:=h4 (.inr (by simpa using e))
  refine VOK_lt (run_lss ..) rfl (VOK_done ?_)
  show AV.bool (decide _)=_
  simp [this]
 ·exact VOK_done rfl
end Go.Proofs.Ytjconanknjgpnaa.vars
set_option maxRecDepth 100000
set_option linter.unusedVariables false
set_option linter.unusedSimpArgs false
namespace Go.Proofs.Ytjconanknjgpnaa.vars
open Go Go.Sx
def May (x:GI):Prop:=Pure Try.prog 25 [.agg (encG x)] (.bool true)
theorem may_of {x:GI} (h:memo Try.prog 300 25 [.agg (encG x)] (.bool true)=true):May x:=memo_ok (n:=300) mo ov h
def c25j:VC:=⟨⟨[],[]⟩,[(43,[none]),(44,[none]),(45,[none])],[],0,true,[]⟩
def t25j:VT:=
 (.call 43 [65] 66 [none]
 (.lt (.bin .neq 101 false true) [66,.int .u64 0] 67 none
 (.ite 67
 (.done (.bool false))
 (.lt (.bin .geq 3 false true) [64,J 0] 68 none
 (.ite 68
 (.lt (.bin .lss 3 false true) [64,J 64] 69 none
 (.lt (.bin .geq 3 false true) [64,J 0] 70 none
 (.ite 70
 (.lt (.bin .lss 3 false true) [64,J 400] 71 none
 (.ite 71
 (.done (.bool true))
 (.done (.bool false))))
 (.done (.bool false)))))
 (.lt (.bin .geq 3 false true) [64,J 0] 69 none
 (.ite 69
 (.lt (.bin .lss 3 false true) [64,J 400] 70 none
 (.ite 70
 (.done (.bool true))
 (.done (.bool false))))
 (.done (.bool false)))))))))
theorem p43z:Pure Try.prog 43 [.flt .f64 0] (.int .u64 0):=memo_ok (n:=300) mo ov (by kernel_rfl)
theorem may_j20 (b:Nat) (hb:b<400):May (ins 20 0 b 0):=by
 refine pure_pat (args':=[.agg [.int .i64 20,.int .i64 0,.sym 64,.int .i64 0,.int .i64 0,.int .i64 0,.sym 65]]) (ls:=[.int .i64 (b:Int),.flt .f64 0]) (c:=c25j) (n:=300) (t:=t25j) mo ov rfl rfl rfl rfl (λY _=>rfl) (λY _=>known0 _) rfl (by kernel_rfl) λY hf hg=>?_
 unfold t25j
 refine VOK_call p43z rfl rfl (VOK_lt (r:=.bool false) (by rfl) rfl (ite_F rfl ?_))
 refine VOK_lt (run_geq ..) rfl (VOK_ite rfl (λ_=>?_) (λh=>?_))
 ·refine VOK_lt (run_lss ..) rfl (VOK_lt (run_geq ..) rfl (VOK_ite rfl (λ_=>?_) (λh=>?_)))
  ·refine VOK_lt (run_lss ..) rfl (VOK_ite rfl (λ_=>VOK_done rfl) (λh=>?_))
   simp only [decide_eq_false_iff_not]at h;omega
  ·simp only [decide_eq_false_iff_not]at h;omega
 ·simp only [decide_eq_false_iff_not]at h;omega
theorem may_j21 (b:Nat) (hb:b<400):May (ins 21 0 b 0):=by
 refine pure_pat (args':=[.agg [.int .i64 21,.int .i64 0,.sym 64,.int .i64 0,.int .i64 0,.int .i64 0,.sym 65]]) (ls:=[.int .i64 (b:Int),.flt .f64 0]) (c:=c25j) (n:=300) (t:=t25j) mo ov rfl rfl rfl rfl (λY _=>rfl) (λY _=>known0 _) rfl (by kernel_rfl) λY hf hg=>?_
 unfold t25j
 refine VOK_call p43z rfl rfl (VOK_lt (r:=.bool false) (by rfl) rfl (ite_F rfl ?_))
 refine VOK_lt (run_geq ..) rfl (VOK_ite rfl (λ_=>?_) (λh=>?_))
 ·refine VOK_lt (run_lss ..) rfl (VOK_lt (run_geq ..) rfl (VOK_ite rfl (λ_=>?_) (λh=>?_)))
  ·refine VOK_lt (run_lss ..) rfl (VOK_ite rfl (λ_=>VOK_done rfl) (λh=>?_))
   simp only [decide_eq_false_iff_not]at h;omega
  ·simp only [decide_eq_false_iff_not]at h;omega
 ·simp only [decide_eq_false_iff_not]at h;omega
theorem push_all:((List.range 50).all λv=>memo Try.prog 300 25 [.agg (encG ⟨1,2,0,0,2,(v:Int),0⟩)] (.bool true)&&(memo Try.prog 300 25 [.agg (encG ⟨1,3,0,0,3,(v:Int),0⟩)] (.bool true)&&memo Try.prog 300 25 [.agg (encG ⟨1,4,0,0,4,(v:Int),0⟩)] (.bool true)))=true:=by kernel_rfl
theorem may_push {vk vi:Int} {vf:Nat} (h:1<=vk/\vk<=5/\0<=vi/\vi<50/\(vk=1->vi<=1)/\(vk=5->vi=0)/\(vk≠5->vf=0)) (hf:Flt4 vf):May ⟨1,vk,0,0,vk,vi,vf⟩:=by
 obtain ⟨h1,h2,h3,h4,h5,h6,h7⟩:=h
 obtain ⟨v,rfl⟩:=Int.eq_ofNat_of_zero_le h3
 have hp:=List.all_eq_true.1 push_all v (List.mem_range.2 (by omega))
 simp only [Bool.and_eq_true]at hp
 obtain ⟨q1,q2,q3⟩:=hp
 rcases (by omega:vk=1\/vk=2\/vk=3\/vk=4\/vk=5)with rfl|rfl|rfl|rfl|rfl
 ·have:=h7 (by decide)
  subst this
  have:=h5 rfl
  rcases (by omega:v=0\/v=1)with rfl|rfl
  ·exact may_of (by kernel_rfl)
  ·exact may_of (by kernel_rfl)
 ·have:=h7 (by decide)
  subst this
  exact may_of q1
 ·have:=h7 (by decide)
  subst this
  exact may_of q2
 ·have:=h7 (by decide)
  subst this
  exact may_of q3
 ·have:=h6 rfl
  have:v=0:=by omega
  subst this
  rcases hf with rfl|rfl|rfl|rfl<;>exact may_of (by kernel_rfl)
theorem may_cell {ad kd:Int} (h:(ad,kd)∈cellsL):May (ins 2 0 ad 0)/\May (ins 18 0 ad 0)/\ad<21:=by
 simp only [cellsL,List.mem_cons,List.not_mem_nil,or_false,Prod.mk.injEq]at h
 rcases h with ⟨rfl,_⟩|⟨rfl,_⟩|⟨rfl,_⟩|⟨rfl,_⟩|⟨rfl,_⟩|⟨rfl,_⟩|⟨rfl,_⟩|⟨rfl,_⟩|⟨rfl,_⟩|⟨rfl,_⟩|⟨rfl,_⟩<;>exact ⟨may_of (by kernel_rfl),may_of (by kernel_rfl),by decide⟩
theorem may_x:May (ins 3 0 8 4)/\May (ins 19 0 8 4)/\May (ins 23 0 0 0):=⟨may_of (by kernel_rfl),may_of (by kernel_rfl),may_of (by kernel_rfl)⟩
theorem may_ch {a b:Int} (h:2<=a/\a<=5/\2<=b/\b<=5):May (ins 17 a 0 b):=by
 rcases (by omega:a=2\/a=3\/a=4\/a=5)with rfl|rfl|rfl|rfl<;>rcases (by omega:b=2\/b=3\/b=4\/b=5)with rfl|rfl|rfl|rfl<;>exact may_of (by kernel_rfl)
theorem may_un:May (ins 15 1 0 0)/\∀k:Int,2<=k/\k<=5->May (ins 16 k 0 0):=by
 refine ⟨may_of (by kernel_rfl),λk h=>?_⟩
 rcases (by omega:k=2\/k=3\/k=4\/k=5)with rfl|rfl|rfl|rfl<;>exact may_of (by kernel_rfl)
theorem may_bin {op k:Int} (h:4<=op/\op<=14/\1<=k/\k<=5) (h1:op<=8->k≠1) (h2:op=8->k≠5) (h3:op=11\/op=12->k≠1) (h4:13<=op->k=1):May (ins op k 0 0):=by
 rcases (by omega:op=4\/op=5\/op=6\/op=7\/op=8\/op=9\/op=10\/op=11\/op=12\/op=13\/op=14)with rfl|rfl|rfl|rfl|rfl|rfl|rfl|rfl|rfl|rfl|rfl<;>
  rcases (by omega:k=1\/k=2\/k=3\/k=4\/k=5)with rfl|rfl|rfl|rfl|rfl<;>first|(exfalso;omega)|exact may_of (by kernel_rfl)
theorem may_blk {kd ad:Int} {ks:List Int} (h:Blk kd ad ks):May (ins 22 kd ad (ks.length:Int))/\ks.length<=2:=by
 rcases h with ⟨rfl,rfl,rfl⟩|⟨rfl,rfl,rfl⟩|⟨rfl,rfl,rfl⟩<;>exact ⟨may_of (by kernel_rfl),by decide⟩
end Go.Proofs.Ytjconanknjgpnaa.vars
set_option maxRecDepth 100000
set_option linter.unusedVariables false
set_option linter.unusedSimpArgs false
namespace Go.Proofs.Ytjconanknjgpnaa.vars
open Go Go.Sx
def c39:VC:=⟨⟨[],[]⟩,[],[(0,[⟨[(24,.slx 0 0 0),(0,.ptr 0 0),(22,75),(3,.ptr 2 0),(23,105)],[(0,[.slx 3 7 1]),(2,[65,66,67,68,69,70,71,72,73,74,75,76,77,78,79,80,81,82,83,84,85,86,87,88,89,90,91])],4,2,[⟨3,7,1,0,(some 0)⟩],[],[]⟩])],1,true,[(24,ft24),(22,ft22)]⟩
def t39:VT:=
 (.callF 24 ft24 [64,76,77,78,79,80,81,82,83,84,85] 92
 (.cons 1
 (.lt (.bin .neq 3 false true) [66,J 3] 104 none
 (.ite 104
 (.callF 22 ft22 [103,J 18,J 0,70,J 0,J 0,J 0,.flt .f64 0] 105
 (.cons 2
 (.done (.tup [J 0,114]))
 .nil))
 (.lt (.len 38) [75] 105 none
 (.loop 106 0 [J 0,103]
 (.cons 2
 (.lt (.bin .lss 3 false false) [106,105] 108 none
 (.ite 108
 (.lt (.iaddr 38) [75,106] 109 none
 (.lt (.load 40) [109] 110 (some 10)
 (.callF 24 ft24 [107,110,111,112,113,114,115,116,117,118,119] 120
 (.cons 1
 (.lt (.bin .add 3 false true) [106,J 1] 132 none
 (.again 0 0 [132,131]))
 .nil))))
 (.callF 22 ft22 [107,J 19,J 0,70,71,J 0,J 0,.flt .f64 0] 109
 (.cons 2
 (.done (.tup [J 0,118]))
 .nil))))
 .nil)))))
 .nil))
def c40:VC:=⟨⟨[],[]⟩,[],[],1,true,[(24,ft24),(22,ft22),(21,ft21)]⟩
def t40:VT:=
 (.callF 24 ft24 [64,76,77,78,79,80,81,82,83,84,85] 92
 (.cons 1
 (.callF 22 ft22 [103,J 21,J 0,J 0,J 0,J 0,J 0,.flt .f64 0] 104
 (.cons 2
 (.callF 21 ft21 [113,86] 114
 (.cons 1
 (.lt (.len 25) [87] 117 none
 (.lt (.bin .gtr 3 false true) [117,J 0] 118 none
 (.ite 118
 (.callF 22 ft22 [116,J 20,J 0,J 0,J 0,J 0,J 0,.flt .f64 0] 119
 (.cons 2
 (.lt (.len 30) [128] 129 none
 (.lt .inb [128,112] 130 none
 (.lt (.stx 3 7 2) [128,130,129] 131 none
 (.chk (.same 128 131)
 (.callF 21 ft21 [131,87] 132
 (.cons 1
 (.lt (.len 30) [134] 135 none
 (.lt .inb [134,127] 136 none
 (.lt (.stx 3 7 2) [134,136,135] 137 none
 (.chk (.same 134 137)
 (.done (.tup [J 0,137]))))))
 .nil))))))
 .nil))
 (.lt (.len 30) [116] 119 none
 (.lt .inb [116,112] 120 none
 (.lt (.stx 3 7 2) [116,120,119] 121 none
 (.chk (.same 116 121)
 (.done (.tup [J 0,121])))))))))
 .nil))
 .nil))
 .nil))
def c41:VC:=⟨⟨[],[]⟩,[],[],1,true,[(24,ft24),(22,ft22),(21,ft21)]⟩
def t41:VT:=
 (.lt (.len 30) [64] 92 none
 (.callF 24 ft24 [64,76,77,78,79,80,81,82,83,84,85] 93
 (.cons 1
 (.callF 22 ft22 [104,J 21,J 0,J 0,J 0,J 0,J 0,.flt .f64 0] 105
 (.cons 2
 (.callF 21 ft21 [114,86] 115
 (.cons 1
 (.callF 22 ft22 [117,J 20,J 0,92,J 0,J 0,J 0,.flt .f64 0] 118
 (.cons 2
 (.lt (.len 30) [127] 128 none
 (.lt .inb [127,113] 129 none
 (.lt (.stx 3 7 2) [127,129,128] 130 none
 (.chk (.same 127 130)
 (.done (.tup [J 0,130]))))))
 .nil))
 .nil))
 .nil))
 .nil)))
def c21:VC:=⟨⟨[],[]⟩,[],[(0,[⟨[(10,.slx 0 0 0),(0,.ptr 0 0),(8,65),(9,66)],[(0,[.slx 1 7 1])],2,2,[⟨1,7,1,0,(some 0)⟩],[],[]⟩]),(3,[⟨[(36,.slx 0 0 0),(0,.ptr 0 0),(34,97),(5,.ptr 2 0),(10,67),(8,65),(9,66),(35,102)],[(0,[.slx 3 7 1]),(2,[71,72,73,74,75,76,77,78,79,80,81,82,83,84,85,86,87,88,89,90,91,92,93,94,95,96,97])],4,2,[⟨3,7,1,0,(some 0)⟩],[],[]⟩])],1,true,[(39,ft39),(40,ft40),(41,ft41),(24,ft24),(22,ft22)]⟩
def t21:VT:=
 (.lt (.len 25) [65] 66 none
 (.loop 67 0 [J 0,64]
 (.cons 2
 (.lt (.bin .lss 3 false false) [67,66] 69 none
 (.ite 69
 (.lt (.iaddr 25) [65,67] 70 none
 (.lt (.load 42) [70] 71 (some 27)
 (.lt (.bin .eql 3 false true) [71,J 1] 98 none
 (.ite 98
 (.callF 39 ft39 [68,71,72,73,74,75,76,77,78,79,80,81,82,83,84,85,86,87,88,89,90,91,92,93,94,95,96,97] 99
 (.cons 1
 (.lt (.bin .add 3 false true) [67,J 1] 128 none
 (.again 0 0 [128,127]))
 .nil))
 (.lt (.bin .eql 3 false true) [71,J 2] 99 none
 (.ite 99
 (.callF 40 ft40 [68,71,72,73,74,75,76,77,78,79,80,81,82,83,84,85,86,87,88,89,90,91,92,93,94,95,96,97] 100
 (.cons 1
 (.lt (.bin .add 3 false true) [67,J 1] 129 none
 (.again 0 0 [129,128]))
 .nil))
 (.lt (.bin .eql 3 false true) [71,J 3] 100 none
 (.ite 100
 (.callF 41 ft41 [68,71,72,73,74,75,76,77,78,79,80,81,82,83,84,85,86,87,88,89,90,91,92,93,94,95,96,97] 101
 (.cons 1
 (.lt (.bin .add 3 false true) [67,J 1] 130 none
 (.again 0 0 [130,129]))
 .nil))
 (.lt (.bin .eql 3 false true) [71,J 4] 101 none
 (.ite 101
 (.lt (.len 38) [97] 102 none
 (.loop 103 0 [J 0,68]
 (.cons 2
 (.lt (.bin .lss 3 false false) [103,102] 105 none
 (.ite 105
 (.lt (.iaddr 38) [97,103] 106 none
 (.lt (.load 40) [106] 107 (some 10)
 (.callF 24 ft24 [104,107,108,109,110,111,112,113,114,115,116] 117
 (.cons 1
 (.lt (.bin .add 3 false true) [103,J 1] 129 none
 (.again 1 0 [129,128]))
 .nil))))
 (.lt (.len 38) [97] 106 none
 (.callF 22 ft22 [104,J 22,95,96,106,J 0,J 0,.flt .f64 0] 107
 (.cons 2
 (.lt (.bin .add 3 false true) [67,J 1] 117 none
 (.again 0 0 [117,116]))
 .nil)))))
 .nil)))
 (.lt (.bin .add 3 false true) [67,J 1] 102 none
 (.again 0 0 [102,68]))))))))))))
 (.done (.tup [J 0,68]))))
 .nil)))
def c8:VC:=⟨⟨[],[]⟩,[],[],0,true,[(21,ft21),(22,ft22)]⟩
def t8:VT:=
 (.callF 21 ft21 [.nsl,65] 66
 (.cons 1
 (.callF 22 ft22 [68,J 23,J 0,J 0,J 0,J 0,J 0,.flt .f64 0] 69
 (.cons 2
 (.lt (.len 30) [78] 79 none
 (.lt (.bin .gtr 3 false true) [79,J 400] 80 none
 (.ite 80
 (.done (.tup [.nsl,J 12]))
 (.done (.tup [78,J 0])))))
 .nil))
 .nil))
theorem run_stxA (l:List GI) {i:Nat} (hi:i<l.length) (a:Int) (k:IntKind):(XOp.stx 3 7 2).run Try.prog [insts l,.int k (i:Int),.int .i64 a]=some (insts (l.set i { l[i]with ad:=a })):=
 run_stx (ti:=(Try.prog.info? 3).get!) lenG hi (p:=[.int .i64 l[i].op,.int .i64 l[i].kd]) (q:=[.int .i64 l[i].ad]) (r:=[.int .i64 l[i].n,.int .i64 l[i].vk,.int .i64 l[i].vi,.flt .f64 l[i].vf]) (xs:=[.int .i64 a]) rfl (.inr ⟨_,_,rfl⟩) (by kernel_rfl) (by kernel_rfl) rfl rfl rfl rfl rfl k
theorem set_mid {α:Type} (a:List α) (x y:α) (b:List α):(a++([x]++b)).set a.length y=a++([y]++b):=by
 rw [List.set_append_right _ _ (Nat.le_refl _),Nat.sub_self];rfl
theorem get_mid {α:Type} (a:List α) (x:α) (b:List α) (h:a.length<(a++([x]++b)).length):(a++([x]++b))[a.length]=x:=by
 rw [List.getElem_append_right (Nat.le_refl _)];simp
theorem run_jump (a:List GI) (op:Int) (b:List GI) (t:Int):(XOp.stx 3 7 2).run Try.prog [insts (a++([ins op 0 0 0]++b)),.int .i64 (a.length:Int),.int .i64 t]=some (insts (a++([ins op 0 t 0]++b))):=by
 have h:a.length<(a++([ins op 0 0 0]++b)).length:=by simp
 rw [run_stxA _ h t .i64,get_mid,set_mid];rfl
theorem same_ok {Y:Sy} {i j:Nat} {l l':List GI} (h1:Y.v i=some (insts l)) (h2:Y.v j=some (insts l')) (h:l.length=l'.length):(Chk.same i j).ok Y:=by
 cases l with
 |nil=>
  cases l' with
  |nil=>exact .inl ⟨h1,h2⟩
  |cons a r=>simp at h
 |cons a r=>
  cases l' with
  |nil=>simp at h
  |cons b q=>
   have e:r.length=q.length:=by simpa using h
   exact .inr ⟨r.length+1,7,_,_,h1,by rw [h2];show some (AV.vsl (q.length+1) 7 _)=_;rw [e]⟩
theorem okIS (l:List GI) (x:GS):okL (insts l::encS x)=true:=by rw [okL_cons,okI];exact okS x
theorem okIB (l:List GI) (x:List GS):okL [insts l,encB x]=true:=by rw [okL_cons,okI];simp only [okL,okB];rfl
theorem genSs_app:∀(b:Nat) (x y:List GS),genSs b (x++y)=genSs b x++genSs (b+(genSs b x).length) y
 |b,[],y=>by simp [genSs]
 |b,s::x,y=>by
  simp only [List.cons_append,genSs,genSs_app _ x y,List.append_assoc,List.length_append,Nat.add_assoc]
def P21 (d:Nat):Prop:=∀(x:List GS) (l:List GI),x.length<=5->(∀s∈x,TS d s)->l.length+(genSs l.length x).length<=900000->CF Try.prog 21 ft21 [insts l,encB x] (R24 (l++genSs l.length x))
theorem e24 {x:GX} (h:TX 5 x) {l:List GI} (hl:l.length+(genE x).length<=900000):CF Try.prog 24 ft24 (insts l::encX x) (R24 (l++genE x)):=p24 5 x (by decide) h l hl
theorem p39 (to e:GX) (thn els:List GS) (nm:List UInt8) (kd ad:Int) (args:List GX) (l:List GI) (ht:TX 5 to) (ho:to.op=2\/to.op=3) (he:TX 5 e)
  (hl:l.length+(genS l.length (.mk 1 to e thn els nm kd ad args)).length<=900000):CF Try.prog 39 ft39 (insts l::encS (.mk 1 to e thn els nm kd ad args)) (R24 (l++genS l.length (.mk 1 to e thn els nm kd ad args))):=by
 have hgen:genS l.length (.mk 1 to e thn els nm kd ad args)=genE e++genTo to:=by simp [genS]
 rw [hgen]at hl⊢
 clear hgen
 have hc:=e24 he (l:=l) (by rw [List.length_append]at hl;omega)
 obtain ⟨to1,to2,to3,to4,to5,to6,to7,to8,to9,to10⟩:=to
 obtain ⟨e1,e2,e3,e4,e5,e6,e7,e8,e9,e10⟩:=e
 refine cf_tree (c:=c39) (n:=300) (t:=t39) mo ov rfl (λY _=>known0 _) (by kernel_rfl) λY hf hg=>?_
 unfold t39
 refine callF' hc rfl (okIX _ _) ⟨?_,trivial⟩
 rintro ws rfl
 simp only [GX.op]at ho
 simp only [genTo]at hl⊢
 (refine it_c rfl rfl (λh=>?_) (λh=>?_)<;>simp only [Cmp,Decidable.not_not,Int.not_lt,Int.not_le]at h<;>try (exfalso;first|exact h trivial|omega))
 ·rw [if_neg h]at hl⊢
  simp only [List.length_append,List.length_cons,List.length_nil]at hl
  refine callF' (p22 _ (ins 18 0 to5 0) (by rw [List.length_append];omega)) rfl (okIG _ _) ⟨?_,trivial⟩
  rintro ws rfl
  exact VOK_fin (ok1I _) (congrArg (λz=>[insts z]) (List.append_assoc ..))
 ·rw [if_pos h]at hl⊢
  simp only [List.length_append,List.length_cons,List.length_nil]at hl
  have hW:∀a∈to10,TX 4 a:=ht.2.2.2.2.2
  have hal:to10.length<=2:=by have:=ht.1;unfold Ari at this;omega
  have hE:∀i,(genEs (to10.take i)).length<=(genEs to10).length:=λi=>by
   have:=congrArg List.length (genEs_app (to10.take i) (to10.drop i))
   rw [List.take_append_drop,List.length_append]at this
   omega
  refine VOK_lt (run_len38 to10) rfl ?_
  refine VOK_loop (ι:=Nat) (λi=>[.int .i64 (i:Int),insts (l++genE (.mk e1 e2 e3 e4 e5 e6 e7 e8 e9 e10)++genEs (to10.take i))]) (λi=>i<=to10.length) (λi=>to10.length-i) 0 (Nat.zero_le _) (by simp [genEs];rfl) (λi _=>by simp only [okL,okC,okI]) (λi j _ _ h=>by simp at h;omega) (λi hi=>?_)
  (refine it_c rfl rfl (λh=>?_) (λh=>?_)<;>simp only [Cmp,Decidable.not_not,Int.not_lt,Int.not_le]at h<;>try (exfalso;first|exact h trivial|omega))
  ·have hi:i<to10.length:=by
     have:(i:Int)<(to10.length:Int):=by assumption
     omega
   have hld:=run_ld40 to10 hi
   have hg:genEs (to10.take (i+1))=genEs (to10.take i)++genE to10[i]:=by
    rw [List.take_succ_eq_append_getElem hi,genEs_app];simp only [genEs,List.append_nil]
   have hz:=e24 (TX_mono (by decide) (hW _ (List.getElem_mem hi))) (l:=l++genE (.mk e1 e2 e3 e4 e5 e6 e7 e8 e9 e10)++genEs (to10.take i)) (by
    have:=hE (i+1)
    rw [hg,List.length_append]at this
    simp only [List.length_append];omega)
   rcases hzz:to10[i]with ⟨zo,zk,znm,zfd,zad,zn,zvk,zvi,zvf,za⟩
   rw [hzz]at hld hz hg
   refine VOK_lt (run_ia38 to10 hi) (encL_ok okX _) (VOK_ltN hld rfl (okX _) ?_)
   refine callF' hz rfl (okIX _ _) ⟨?_,trivial⟩
   rintro ws rfl
   refine VOK_lt (add_c (by omega) (by omega)) rfl (VOK_again rfl ⟨i+1,hi,?_,by omega⟩)
   rw [hg,←List.append_assoc];rfl
  have hi:i=to10.length:=by
   have:(to10.length:Int)<=(i:Int):=by assumption
   omega
  subst hi
  rw [List.take_length]
  refine callF' (p22 _ (ins 19 0 to5 to6) (by simp only [List.length_append];omega)) rfl (okIG _ _) ⟨?_,trivial⟩
  rintro ws rfl
  exact VOK_fin (ok1I _) (congrArg (λz=>[insts z]) (by simp only [List.append_assoc]))
theorem p22' {l l':List GI} {i:GI} (hl:l.length<=1000000) (e:l++[i]=l'):CF Try.prog 22 ft22 (insts l::encG i) (λ_ ws=>ws=[.int .i64 (l.length:Int),insts l']):=by
 subst e;exact p22 l i hl
theorem p40 (d:Nat) (hT:P21 d) (to e:GX) (thn els:List GS) (nm:List UInt8) (kd ad:Int) (args:List GX) (l:List GI) (he:TX 5 e) (h1:∀s∈thn,TS d s) (h2:∀s∈els,TS d s) (hb1:thn.length<=5) (hb:els.length<=5)
  (hl:l.length+(genS l.length (.mk 2 to e thn els nm kd ad args)).length<=900000):CF Try.prog 40 ft40 (insts l::encS (.mk 2 to e thn els nm kd ad args)) (R24 (l++genS l.length (.mk 2 to e thn els nm kd ad args))):=by
 obtain ⟨c,hc⟩:∃c,c=genE e:=⟨_,rfl⟩
 obtain ⟨t,ht⟩:∃t,t=genSs (l.length+c.length+1) thn:=⟨_,rfl⟩
 obtain ⟨q,hq⟩:∃q,q=genSs (l.length+c.length+1+t.length+1) els:=⟨_,rfl⟩
 have hgen:genS l.length (.mk 2 to e thn els nm kd ad args)=if els=[]then c++[ins 21 0 ((l.length+c.length+1+t.length:Nat):Int) 0]++t else c++[ins 21 0 ((l.length+c.length+1+t.length+1:Nat):Int) 0]++t++[ins 20 0 ((l.length+c.length+1+t.length+1+q.length:Nat):Int) 0]++q:=by
  subst hq ht hc;simp [genS]
 rw [hgen]at hl⊢
 clear hgen
 have hlc:l.length+c.length+1+t.length<=900000:=by
  split at hl<;>simp only [List.length_append,List.length_cons,List.length_nil]at hl<;>omega
 have k1:=e24 he (l:=l) (by rw [←hc];omega)
 rw [←hc]at k1
 have k2:CF Try.prog 22 ft22 (insts (l++c)::encG (ins 21 0 0 0)) _:=p22' (l':=l++c++[ins 21 0 0 0]) (by rw [List.length_append];omega) rfl
 have k3:=hT thn (l++c++[ins 21 0 0 0]) hb1 h1 (by
  simp only [List.length_append,List.length_cons,List.length_nil,Nat.zero_add]
  rw [←ht];omega)
 have e0:(l++c++[ins 21 0 0 0]).length=l.length+c.length+1:=by simp only [List.length_append,List.length_cons,List.length_nil]
 rw [e0,←ht,List.append_assoc (l++c)]at k3
 obtain ⟨e1,e2,e3,e4,e5,e6,e7,e8,e9,e10⟩:=e
 obtain ⟨to1,to2,to3,to4,to5,to6,to7,to8,to9,to10⟩:=to
 refine cf_tree (c:=c40) (n:=300) (t:=t40) mo ov rfl (λY _=>known0 _) (by kernel_rfl) λY hf hg=>?_
 unfold t40
 refine callF' k1 rfl (okIX _ _) ⟨?_,trivial⟩
 rintro ws rfl
 refine callF' k2 rfl (okIG _ _) ⟨?_,trivial⟩
 rintro ws rfl
 refine callF' k3 rfl (okIB _ _) ⟨?_,trivial⟩
 rintro ws rfl
 refine VOK_lt (run_len25 els) rfl ?_
 (refine it_c rfl rfl (λh=>?_) (λh=>?_)<;>simp only [Cmp,Decidable.not_not,Int.not_lt,Int.not_le]at h<;>try (exfalso;first|exact h trivial|omega))
 ·have hne:els≠[]:=λe=>by subst e;simp at h
  rw [if_neg hne]at hl⊢
  simp only [List.length_append,List.length_cons,List.length_nil]at hl
  have k4:CF Try.prog 22 ft22 (insts (l++c++([ins 21 0 0 0]++t))::encG (ins 20 0 0 0)) _:=p22' (l':=l++c++([ins 21 0 0 0]++(t++[ins 20 0 0 0]))) (by simp only [List.length_append,List.length_cons,List.length_nil];omega) (by simp only [List.append_assoc])
  refine callF' k4 rfl (okIG _ _) ⟨?_,trivial⟩
  rintro ws rfl
  refine VOK_lt (run_len30 _) rfl (VOK_lt (run_inb (i:=(l++c).length) (by simp) .i64) rfl (VOK_lt (run_jump (l++c) 21 (t++[ins 20 0 0 0]) _) (okI _) (VOK_chk (same_ok rfl rfl (by simp)) ?_)))
  have e5':(l++c++([ins 21 0 0 0]++(t++[ins 20 0 0 0]))).length=l.length+c.length+1+t.length+1:=by simp only [List.length_append,List.length_cons,List.length_nil];omega
  have k5:=hT els (l++c++([ins 21 0 ((l++c++([ins 21 0 0 0]++(t++[ins 20 0 0 0]))).length:Int) 0]++(t++[ins 20 0 0 0]))) hb h2 (by
   simp only [List.length_append,List.length_cons,List.length_nil]
   rw [show l.length+c.length+(0+1+(t.length+(0+1)))=l.length+c.length+1+t.length+1 by omega,←hq];omega)
  have e6':(l++c++([ins 21 0 ((l++c++([ins 21 0 0 0]++(t++[ins 20 0 0 0]))).length:Int) 0]++(t++[ins 20 0 0 0]))).length=l.length+c.length+1+t.length+1:=by simp only [List.length_append,List.length_cons,List.length_nil];omega
  rw [e6',←hq]at k5
  have e7':l++c++([ins 21 0 ((l++c++([ins 21 0 0 0]++(t++[ins 20 0 0 0]))).length:Int) 0]++(t++[ins 20 0 0 0]))++q=(l++c++([ins 21 0 ((l++c++([ins 21 0 0 0]++(t++[ins 20 0 0 0]))).length:Int) 0]++t))++([ins 20 0 0 0]++q):=by simp only [List.append_assoc]
  rw [e7']at k5
  refine callF' k5 rfl (okIB _ _) ⟨?_,trivial⟩
  rintro ws rfl
  have e8':(((l++c++([ins 21 0 0 0]++t)).length:Nat):Int)=(((l++c++([ins 21 0 ((l++c++([ins 21 0 0 0]++(t++[ins 20 0 0 0]))).length:Int) 0]++t)).length:Nat):Int):=by simp only [List.length_append,List.length_cons,List.length_nil]
  refine VOK_lt (run_len30 _) rfl (VOK_lt (r:=.int .i64 (((l++c++([ins 21 0 ((l++c++([ins 21 0 0 0]++(t++[ins 20 0 0 0]))).length:Int) 0]++t)).length:Nat):Int)) (by rw [←e8'];exact run_inb (i:=(l++c++([ins 21 0 0 0]++t)).length) (by simp) .i64) rfl (VOK_lt (run_jump _ 20 q _) (okI _) (VOK_chk (same_ok rfl rfl (by simp)) (VOK_fin (ok1I _) ?_))))
  refine congrArg (λz=>[insts z]) ?_
  rw [e5']
  simp only [List.append_assoc,List.length_append,List.length_cons,List.length_nil]
  have x1:l.length+(c.length+(0+1+(t.length+(0+1+q.length))))=l.length+c.length+1+t.length+1+q.length:=by omega
  rw [x1]
 ·have hne:els=[]:=by
    cases els with
    |nil=>rfl
    |cons a r=>simp at h;omega
  rw [if_pos hne]
  refine VOK_lt (run_len30 _) rfl (VOK_lt (run_inb (i:=(l++c).length) (by simp) .i64) rfl (VOK_lt (run_jump (l++c) 21 t _) (okI _) (VOK_chk (same_ok rfl rfl (by simp)) (VOK_fin (ok1I _) ?_))))
  refine congrArg (λz=>[insts z]) ?_
  simp only [List.append_assoc,List.length_append,List.length_cons,List.length_nil]
  have x1:l.length+(c.length+(0+1+t.length))=l.length+c.length+1+t.length:=by omega
  rw [x1]
theorem p41 (d:Nat) (hT:P21 d) (to e:GX) (thn els:List GS) (nm:List UInt8) (kd ad:Int) (args:List GX) (l:List GI) (he:TX 5 e) (h1:∀s∈thn,TS d s) (hb1:thn.length<=5)
  (hl:l.length+(genS l.length (.mk 3 to e thn els nm kd ad args)).length<=900000):CF Try.prog 41 ft41 (insts l::encS (.mk 3 to e thn els nm kd ad args)) (R24 (l++genS l.length (.mk 3 to e thn els nm kd ad args))):=by
 obtain ⟨c,hc⟩:∃c,c=genE e:=⟨_,rfl⟩
 obtain ⟨t,ht⟩:∃t,t=genSs (l.length+c.length+1) thn:=⟨_,rfl⟩
 have hgen:genS l.length (.mk 3 to e thn els nm kd ad args)=c++[ins 21 0 ((l.length+c.length+1+t.length+1:Nat):Int) 0]++t++[ins 20 0 (l.length:Int) 0]:=by
  subst ht hc;simp [genS]
 rw [hgen]at hl⊢
 clear hgen
 simp only [List.length_append,List.length_cons,List.length_nil]at hl
 have k1:=e24 he (l:=l) (by rw [←hc];omega)
 rw [←hc]at k1
 have k2:CF Try.prog 22 ft22 (insts (l++c)::encG (ins 21 0 0 0)) _:=p22' (l':=l++c++[ins 21 0 0 0]) (by rw [List.length_append];omega) rfl
 have k3:=hT thn (l++c++[ins 21 0 0 0]) hb1 h1 (by
  simp only [List.length_append,List.length_cons,List.length_nil,Nat.zero_add]
  rw [←ht];omega)
 have e0:(l++c++[ins 21 0 0 0]).length=l.length+c.length+1:=by simp only [List.length_append,List.length_cons,List.length_nil]
 rw [e0,←ht,List.append_assoc (l++c)]at k3
 have k4:CF Try.prog 22 ft22 (insts (l++c++([ins 21 0 0 0]++t))::encG (ins 20 0 (l.length:Int) 0)) _:=p22' (l':=l++c++([ins 21 0 0 0]++(t++[ins 20 0 (l.length:Int) 0]))) (by simp only [List.length_append,List.length_cons,List.length_nil];omega) (by simp only [List.append_assoc])
 obtain ⟨e1,e2,e3,e4,e5,e6,e7,e8,e9,e10⟩:=e
 obtain ⟨to1,to2,to3,to4,to5,to6,to7,to8,to9,to10⟩:=to
 refine cf_tree (c:=c41) (n:=300) (t:=t41) mo ov rfl (λY _=>known0 _) (by kernel_rfl) λY hf hg=>?_
 unfold t41
 refine VOK_lt (run_len30 _) rfl ?_
 refine callF' k1 rfl (okIX _ _) ⟨?_,trivial⟩
 rintro ws rfl
 refine callF' k2 rfl (okIG _ _) ⟨?_,trivial⟩
 rintro ws rfl
 refine callF' k3 rfl (okIB _ _) ⟨?_,trivial⟩
 rintro ws rfl
 refine callF' k4 rfl (okIG _ _) ⟨?_,trivial⟩
 rintro ws rfl
 refine VOK_lt (run_len30 _) rfl (VOK_lt (run_inb (i:=(l++c).length) (by simp) .i64) rfl (VOK_lt (run_jump (l++c) 21 (t++[ins 20 0 (l.length:Int) 0]) _) (okI _) (VOK_chk (same_ok rfl rfl (by simp)) (VOK_fin (ok1I _) ?_))))
 refine congrArg (λz=>[insts z]) ?_
 simp only [List.append_assoc,List.length_append,List.length_cons,List.length_nil]
 have x1:l.length+(c.length+(0+1+(t.length+(0+1))))=l.length+c.length+1+t.length+1:=by omega
 rw [x1]
theorem genSs_take (b:Nat) (x:List GS) {i:Nat} (hi:i<x.length):genSs b (x.take (i+1))=genSs b (x.take i)++genS (b+(genSs b (x.take i)).length) x[i]:=by
 rw [List.take_succ_eq_append_getElem hi,genSs_app];simp only [genSs,List.append_nil]
theorem genSs_le (b:Nat) (x:List GS) (i:Nat):(genSs b (x.take i)).length<=(genSs b x).length:=by
 have:=congrArg List.length (genSs_app b (x.take i) (x.drop i))
 rw [List.take_append_drop,List.length_append]at this
 omega
theorem p21 (d:Nat) (hT:∀e,d=e+1->P21 e):P21 d:=by
 intro x l hx5 hx hl
 rcases d with _|d
 ·have:x=[]:=by
    cases x with
    |nil=>rfl
    |cons a r=>exact (hx a (List.mem_cons_self ..)).elim
  subst this
  refine cf_tree (c:=c21) (n:=300) (t:=t21) mo ov rfl (λY _=>known0 _) (by kernel_rfl) λY hf hg=>?_
  unfold t21
  refine VOK_lt (run_len25 []) rfl ?_
  refine VOK_loop (ι:=Unit) (λ_=>[.int .i64 0,insts l]) (λ_=>True) (λ_=>0) () trivial rfl (λi _=>by simp only [okL,okC,okI]) (λi j _ _ h=>rfl) (λi hi=>?_)
  refine VOK_lt (r:=.bool false) rfl rfl (VOK_ite rfl (λh=>by cases h) (λ_=>VOK_fin (ok1I _) ?_))
  exact congrArg (λz=>[insts z]) (by simp [genSs])
 have hT:=hT d rfl
 refine cf_tree (c:=c21) (n:=300) (t:=t21) mo ov rfl (λY _=>known0 _) (by kernel_rfl) λY hf hg=>?_
 unfold t21
 refine VOK_lt (run_len25 x) rfl ?_
 refine VOK_loop (ι:=Nat) (λi=>[.int .i64 (i:Int),insts (l++genSs l.length (x.take i))]) (λi=>i<=x.length) (λi=>x.length-i) 0 (Nat.zero_le _) (by simp [genSs];rfl) (λi _=>by simp only [okL,okC,okI]) (λi j _ _ h=>by simp at h;omega) (λi hi=>?_)
 (refine it_c rfl rfl (λh=>?_) (λh=>?_)<;>simp only [Cmp,Decidable.not_not,Int.not_lt,Int.not_le]at h<;>try (exfalso;first|exact h trivial|omega))
 ·have hi:i<x.length:=by omega
  have hld:=run_ld42 x hi
  have hz:=hx x[i] (List.getElem_mem hi)
  have hg:=genSs_take l.length x hi
  have hle:=genSs_le l.length x (i+1)
  rw [hg,List.length_append]at hle
  have hlen:(l++genSs l.length (x.take i)).length=l.length+(genSs l.length (x.take i)).length:=List.length_append
  rw [←hlen]at hg hle
  have nxt:insts (l++genSs l.length (x.take i)++genS (l++genSs l.length (x.take i)).length x[i])=insts (l++genSs l.length (x.take (i+1))):=by rw [hg,List.append_assoc]
  have hb:(l++genSs l.length (x.take i)).length+(genS (l++genSs l.length (x.take i)).length x[i]).length<=900000:=by rw [hlen]at hle⊢;omega
  rcases hzz:x[i]with ⟨op,to,e,thn,els,nm,kd,ad,args⟩
  rw [hzz]at hld hz nxt hb
  obtain ⟨to1,to2,to3,to4,to5,to6,to7,to8,to9,to10⟩:=to
  obtain ⟨e1,e2,e3,e4,e5,e6,e7,e8,e9,e10⟩:=e
  refine VOK_lt (run_ia25 x hi) (encL_ok okS _) (VOK_ltN hld rfl (okS _) ?_)
  rcases hz with ⟨rfl,a1,a2,a3,a4⟩|⟨ho,b1,b2,b3,b4,b5,b6⟩|⟨rfl,c1,c2⟩
  ·(refine it_c rfl rfl (λh=>?_) (λh=>?_)<;>simp only [Cmp,Decidable.not_not,Int.not_lt,Int.not_le]at h<;>try (exfalso;first|exact h trivial|omega))
   refine callF' (p39 _ _ thn els nm kd ad args _ a1 a2 a3 hb) rfl (okIS _ _) ⟨?_,trivial⟩
   rintro ws rfl
   exact VOK_lt (add_c (by omega) (by omega)) rfl (VOK_again rfl ⟨i+1,hi,by rw [←nxt];rfl,by omega⟩)
  ·rcases ho with rfl|rfl
   ·(refine it_c rfl rfl (λh=>?_) (λh=>?_)<;>simp only [Cmp,Decidable.not_not,Int.not_lt,Int.not_le]at h<;>try (exfalso;first|exact h trivial|omega));(refine it_c rfl rfl (λh=>?_) (λh=>?_)<;>simp only [Cmp,Decidable.not_not,Int.not_lt,Int.not_le]at h<;>try (exfalso;first|exact h trivial|omega))
    refine callF' (p40 d hT _ _ thn els nm kd ad args _ b1 b5 b6 b3 b4 hb) rfl (okIS _ _) ⟨?_,trivial⟩
    rintro ws rfl
    exact VOK_lt (add_c (by omega) (by omega)) rfl (VOK_again rfl ⟨i+1,hi,by rw [←nxt];rfl,by omega⟩)
   ·(refine it_c rfl rfl (λh=>?_) (λh=>?_)<;>simp only [Cmp,Decidable.not_not,Int.not_lt,Int.not_le]at h<;>try (exfalso;first|exact h trivial|omega));(refine it_c rfl rfl (λh=>?_) (λh=>?_)<;>simp only [Cmp,Decidable.not_not,Int.not_lt,Int.not_le]at h<;>try (exfalso;first|exact h trivial|omega));(refine it_c rfl rfl (λh=>?_) (λh=>?_)<;>simp only [Cmp,Decidable.not_not,Int.not_lt,Int.not_le]at h<;>try (exfalso;first|exact h trivial|omega))
    refine callF' (p41 d hT _ _ thn els nm kd ad args _ b1 b5 b3 hb) rfl (okIS _ _) ⟨?_,trivial⟩
    rintro ws rfl
    exact VOK_lt (add_c (by omega) (by omega)) rfl (VOK_again rfl ⟨i+1,hi,by rw [←nxt];rfl,by omega⟩)
  ·(refine it_c rfl rfl (λh=>?_) (λh=>?_)<;>simp only [Cmp,Decidable.not_not,Int.not_lt,Int.not_le]at h<;>try (exfalso;first|exact h trivial|omega));(refine it_c rfl rfl (λh=>?_) (λh=>?_)<;>simp only [Cmp,Decidable.not_not,Int.not_lt,Int.not_le]at h<;>try (exfalso;first|exact h trivial|omega));(refine it_c rfl rfl (λh=>?_) (λh=>?_)<;>simp only [Cmp,Decidable.not_not,Int.not_lt,Int.not_le]at h<;>try (exfalso;first|exact h trivial|omega));(refine it_c rfl rfl (λh=>?_) (λh=>?_)<;>simp only [Cmp,Decidable.not_not,Int.not_lt,Int.not_le]at h<;>try (exfalso;first|exact h trivial|omega))
   have hal:args.length<=2:=by
    rcases c1 with ⟨_,_,c1⟩|⟨_,_,c1⟩|⟨_,_,c1⟩<;>(have:=congrArg List.length c1;simp at this;omega)
   obtain ⟨l',hl'⟩:∃l',l'=l++genSs l.length (x.take i):=⟨_,rfl⟩
   rw [←hl']at nxt hb
   have hgen:genS l'.length (.mk 4 (.mk to1 to2 to3 to4 to5 to6 to7 to8 to9 to10) (.mk e1 e2 e3 e4 e5 e6 e7 e8 e9 e10) thn els nm kd ad args)=genEs args++[ins 22 kd ad (args.length:Int)]:=by simp [genS]
   rw [hgen]at nxt hb
   simp only [List.length_append,List.length_cons,List.length_nil]at hb
   have hE:∀i,(genEs (args.take i)).length<=(genEs args).length:=λi=>by
    have:=congrArg List.length (genEs_app (args.take i) (args.drop i))
    rw [List.take_append_drop,List.length_append]at this
    omega
   refine VOK_lt (run_len38 args) rfl ?_
   refine VOK_loop (ι:=Nat) (λj=>[.int .i64 (j:Int),insts (l'++genEs (args.take j))]) (λj=>j<=args.length) (λj=>args.length-j) 0 (Nat.zero_le _) (by rw [hl'];simp [genEs];rfl) (λi _=>by simp only [okL,okC,okI]) (λi j _ _ h=>by simp at h;omega) (λj hj=>?_)
   (refine it_c rfl rfl (λh=>?_) (λh=>?_)<;>simp only [Cmp,Decidable.not_not,Int.not_lt,Int.not_le]at h<;>try (exfalso;first|exact h trivial|omega))
   ·have hj':j<args.length:=by
      have:(j:Int)<(args.length:Int):=by assumption
      omega
    have hld:=run_ld40 args hj'
    have hg2:genEs (args.take (j+1))=genEs (args.take j)++genE args[j]:=by
     rw [List.take_succ_eq_append_getElem hj',genEs_app];simp only [genEs,List.append_nil]
    have hz2:=e24 (c2 _ (List.getElem_mem hj')) (l:=l'++genEs (args.take j)) (by
     have:=hE (j+1)
     rw [hg2,List.length_append]at this
     simp only [List.length_append];omega)
    rcases hyy:args[j]with ⟨zo,zk,znm,zfd,zad,zn,zvk,zvi,zvf,za⟩
    rw [hyy]at hld hz2 hg2
    refine VOK_lt (run_ia38 args hj') (encL_ok okX _) (VOK_ltN hld rfl (okX _) ?_)
    refine callF' hz2 rfl (okIX _ _) ⟨?_,trivial⟩
    rintro ws rfl
    refine VOK_lt (add_c (by omega) (by omega)) rfl (VOK_again rfl ⟨j+1,hj',?_,by omega⟩)
    rw [hg2,←List.append_assoc];rfl
   have hj':j=args.length:=by
    have:(args.length:Int)<=(j:Int):=by assumption
    omega
   subst hj'
   rw [List.take_length]
   refine VOK_lt (run_len38 args) rfl ?_
   refine callF' (p22 _ (ins 22 kd ad (args.length:Int)) (by simp only [List.length_append];omega)) rfl (okIG _ _) ⟨?_,trivial⟩
   rintro ws rfl
   exact VOK_lt (add_c (by omega) (by omega)) rfl (VOK_again rfl ⟨i+1,hi,by rw [←nxt,←List.append_assoc];rfl,by omega⟩)
 have hi:i=x.length:=by omega
 subst hi
 rw [List.take_length]
 exact VOK_fin (ok1I _) rfl
theorem P21_all:∀d:Nat,P21 d
 |0=>p21 0 (λe h=>by omega)
 |d+1=>p21 (d+1) (λe h=>by cases h;exact P21_all d)
def genP (x:List GS):List GI:=genSs 0 x++[ins 23 0 0 0]
def pl (x:List GS):AV:=if (genP x).length<=400 then insts (genP x)else .nsl
def pe (x:List GS):Int:=if (genP x).length<=400 then 0 else 12
def progR (x:List GS):AV:=.tup [pl x,.int .i64 (pe x)]
theorem okPl (x:List GS):okC (pl x)=true:=by
 unfold pl
 split
 ·exact okI _
 ·rfl
theorem noRefR (x:List GS):noRef (progR x)=true:=by
 have:=okC_noRef (okPl x);simp only [progR,noRef,noRefL,this]
theorem P21_nil (l:List GI):CF Try.prog 21 ft21 [insts l,.vsl 0 27 []] (R24 l):=by
 refine cf_tree (c:=c21) (n:=300) (t:=t21) mo ov rfl (λY _=>known0 _) (by kernel_rfl) λY hf hg=>?_
 unfold t21
 refine VOK_lt (r:=.int .i64 0) rfl rfl ?_
 refine VOK_loop (ι:=Unit) (λ_=>[.int .i64 0,insts l]) (λ_=>True) (λ_=>0) () trivial rfl (λi _=>by simp only [okL,okC,okI]) (λi j _ _ h=>rfl) (λi hi=>?_)
 exact VOK_lt (r:=.bool false) rfl rfl (VOK_ite rfl (λh=>by cases h) (λ_=>VOK_fin (ok1I _) rfl))
theorem okIb (l:List GI) {b:AV} (hb:okC b=true):okL [insts l,b]=true:=by rw [okL_cons,okI];simp only [okL,hb];rfl
theorem p8 {d:Nat} {v b:AV} (hv:okC v=true) {x:List GS} (hs:SlV encS 27 x b) (h5:x.length<=5) (hx:∀s∈x,TS d s) (hl:(genSs 0 x).length<=900000):Pure Try.prog 8 [.agg [v,b]] (progR x):=by
 have hb:=hs.ok okS
 have h:CF Try.prog 21 ft21 [insts [],b] (R24 ([]++genSs 0 x)):=by
  have h0:=P21_all d x [] h5 hx (by simpa using hl)
  rcases hs with h1|⟨rfl,rfl⟩
  ·subst h1
   cases x with
   |nil=>exact P21_nil []
   |cons a r=>
    have e:vslOf encS 27 (a::r)=encB (a::r):=by rw [encB_eq];rfl
    rw [e];exact h0
  ·exact h0
 refine pure_shape (sh:=[some 2]) (ls:=[v,b]) (c:=c8) (n:=300) (t:=t8) mo ov rfl (by simp only [okL,hv,hb]) (noRefR x) (λY _=>known0 _) rfl (by kernel_rfl) λY hf hg=>?_
 unfold t8
 refine callF' h rfl (okIb [] hb) ⟨?_,trivial⟩
 rintro ws rfl
 refine callF' (p22' (i:=ins 23 0 0 0) (l':=genP x) (by simpa using Nat.le_trans hl (by decide)) rfl) rfl (okIG _ _) ⟨?_,trivial⟩
 rintro ws rfl
 refine VOK_lt (run_len30 _) rfl ?_
 (refine it_c rfl rfl (λh=>?_) (λh=>?_)<;>simp only [Cmp,Decidable.not_not,Int.not_lt,Int.not_le]at h<;>try (exfalso;first|exact h trivial|omega))
 ·refine VOK_done ?_
  unfold progR pl pe
  rw [if_neg (by omega),if_neg (by omega)];rfl
 ·refine VOK_done ?_
  unfold progR pl pe
  rw [if_pos (by omega),if_pos (by omega)];rfl
end Go.Proofs.Ytjconanknjgpnaa.vars
