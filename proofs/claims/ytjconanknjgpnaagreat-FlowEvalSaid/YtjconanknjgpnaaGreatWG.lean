/-
  Operations: the document's, the program's.
-/
import Derived.Test.YtjconanknjgpnaaGreatV5
import Derived.Test.YtjconanknjgpnaaGreatFA
set_option maxRecDepth 100000
set_option linter.unusedVariables false
set_option linter.unusedSimpArgs false
namespace Go.Proofs.YtjconanknjgpnaaGreat.vars
open Go Go.Sx
def encVs (l:List FV):AV:=sliceOf encV 3 l
theorem okVs (l:List FV):okC (encVs l)=true:=by
 unfold encVs
 cases l with
 |nil=>rfl
 |cons a r=>
  simp only [sliceOf,okC]
  exact encL_ok okV (a::r)
theorem run_len31 (l:List FV):(XOp.len 31).run Tryz.prog [encVs l]=some (.int .i64 (l.length:Int)):=run_len_sl Tryz.underlying31 l
theorem run_ia31 (l:List FV) {i:Nat} (h:i<l.length):(XOp.iaddr 31).run Tryz.prog [encVs l,.int .i64 (i:Int)]=some (.vptr (encL encV (l.drop i))):=
 run_iaddr_sl (e:=46) (ti:=(Tryz.prog.info? 46).get!) Tryz.underlying31 (by kernel_rfl) (by kernel_rfl) lenV h .i64
theorem run_ld46 (l:List FV) {i:Nat} (h:i<l.length):(XOp.load 46).run Tryz.prog [.vptr (encL encV (l.drop i))]=some (.agg (encV l[i])):=
 run_load_agg (ti:=(Tryz.prog.info? 46).get!) Tryz.underlying46 rfl (by kernel_rfl) (by kernel_rfl) lenV h
def opW (op k:Int) (a b:FV):FV:=if opE op k b=0 then opV op k a b else FV.z
theorem opK_real {op:Int} (h:OpK op 5):OpR op:=by
 unfold OpK at h
 unfold OpR
 omega
theorem p51 {op k:Int} {a b:FV} (ho:OpK op k) (ha:TV a) (hk:a.k=k):Pure Tryz.prog 51 [.int .i64 op,.int .i64 k,.agg (encV a),.agg (encV b)] (.tup [.agg (encV (opW op k a b)),.int .i64 (opE op k b)]):=by
 have hok:okL ([.int .i64 op,.int .i64 k]++(encV a++encV b))=true:=encL_ok.okL_join (a:=[_,_]) rfl (encL_ok.okL_join (okV a) (okV b))
 refine pure_shape (sh:=[none,none,some 3,some 3]) (ls:=[.int .i64 op,.int .i64 k]++(encV a++encV b)) (c:=c51) (n:=300) (t:=t51) mo ov rfl hok (noRefVE ..) (λY _=>known0 _) rfl (by kernel_rfl) λY hf hg=>?_
 unfold t51
 have fin:∀{w:FV} {e:Int},opW op k a b=w->opE op k b=e->AV.tup [.agg (encV w),.int .i64 e]=.tup [.agg (encV (opW op k a b)),.int .i64 (opE op k b)]:=λh1 h2=>by rw [h1,h2]
 (refine it_c rfl rfl (λh=>?_) (λh=>?_)<;>simp only [Cmp,Decidable.not_not,Int.not_lt,Int.not_le]at h<;>try (exfalso;first|exact h trivial|omega))
 ·subst h
  have hr:=opK_real ho
  have he:opE op 5 b=0:=rfl
  have hw:opW op 5 a b=realV op a.f b.f:=by unfold opW opV;rw [if_pos he,if_pos rfl]
  rw [realV_F hr]at hw
  refine VOK_call (p85 op a.f b.f hr) rfl (by simp only [okL,okC,fv_ok]) (VOK_lt rfl rfl (VOK_ite (t:=false) rfl (λh=>by cases h) (λ_=>?_)))
  (refine it_c rfl rfl (λh=>?_) (λh=>?_)<;>simp only [Cmp,Decidable.not_not,Int.not_lt,Int.not_le]at h<;>try (exfalso;first|exact h trivial|omega))
  ·(refine it_c rfl rfl (λh=>?_) (λh=>?_)<;>simp only [Cmp,Decidable.not_not,Int.not_lt,Int.not_le]at h<;>try (exfalso;first|exact h trivial|omega))
   ·rw [if_pos (by omega)]at hw
    exact VOK_call (p86 _) rfl rfl (VOK_done (fin hw he))
   ·rw [if_neg (by omega)]at hw
    exact VOK_done (fin hw he)
  ·rw [if_neg (by omega)]at hw
   exact VOK_done (fin hw he)
 have h5:=h
 refine VOK_call (p87 op k a.i b.i ho h5 (hk▸ha.1)) rfl rfl ?_
 have he:opE op k b=intE op b.i:=by unfold opE;rw [if_neg h5]
 (refine it_c rfl rfl (λh=>?_) (λh=>?_)<;>simp only [Cmp,Decidable.not_not,Int.not_lt,Int.not_le]at h<;>try (exfalso;first|exact h trivial|omega))
 ·have h0:=h
  exact VOK_done (fin (w:=FV.z) (by unfold opW;rw [he,if_neg h0]) he)
 have h0:=h
 have hi:intR op k a.i b.i=intV op k a.i b.i:=by unfold intR;rw [if_pos h0]
 have hw:opW op k a b=⟨if 9<=op/\op<=12 then 1 else k,intR op k a.i b.i,some 0⟩:=by
  unfold opW opV;rw [he,if_pos h0,if_neg h5,hi]
 rw [h0]at he
 (refine it_c rfl rfl (λh=>?_) (λh=>?_)<;>simp only [Cmp,Decidable.not_not,Int.not_lt,Int.not_le]at h<;>try (exfalso;first|exact h trivial|omega))
 ·(refine it_c rfl rfl (λh=>?_) (λh=>?_)<;>simp only [Cmp,Decidable.not_not,Int.not_lt,Int.not_le]at h<;>try (exfalso;first|exact h trivial|omega))
  ·rw [if_pos (by omega)]at hw
   exact VOK_done (fin hw he)
  ·rw [if_neg (by omega)]at hw
   exact VOK_done (fin hw he)
 ·rw [if_neg (by omega)]at hw
  exact VOK_done (fin hw he)
def RE0 (e:Int):Nat->List AV->Prop:=λj ws=>(j=0/\e=0/\ws=[])\/(j=1/\e≠0/\ws=[.int .i64 e])
theorem p113 (e:Int):CF Tryz.prog 113 ft113 [.int .i64 e] (RE0 e):=by
 refine cf_tree (c:=c113) (n:=300) (t:=t113) mo ov rfl (λY _=>known0 _) (by kernel_rfl) λY hf hg=>?_
 unfold t113
 (refine it_c rfl rfl (λh=>?_) (λh=>?_)<;>simp only [Cmp,Decidable.not_not,Int.not_lt,Int.not_le]at h<;>try (exfalso;first|exact h trivial|omega))
 ·exact VOK_fin rfl (.inr ⟨rfl,h,rfl⟩)
 ·exact VOK_fin rfl (.inl ⟨rfl,h,rfl⟩)
def RV (r:Except Int FV):Nat->List AV->Prop:=λj ws=>(∃v,r=.ok v/\j=0/\ws=encV v)\/(∃e,r=.error e/\j=1/\ws=[.int .i64 e])
theorem finV {r:Except Int FV} {v:FV} {hv:List AV} {Y:Sy} {L:List (Nat->List AV->Prop)} (h:denL Y.v hv=encV v) (hr:r=.ok v):VOK Tryz.prog (QF (RV r)) L Y (.done (.tup (.int .i64 0::hv))):=
 VOK_fin (j:=0) (by rw [h];exact okV v) (.inl ⟨v,hr,rfl,h⟩)
theorem finR {r:Except Int FV} {e:Int} {hv:List AV} {Y:Sy} {L:List (Nat->List AV->Prop)} (h:denL Y.v hv=[.int .i64 e]) (hr:r=.error e):VOK Tryz.prog (QF (RV r)) L Y (.done (.tup (.int .i64 1::hv))):=
 VOK_fin (j:=1) (by rw [h];rfl) (.inr ⟨e,hr,rfl,h⟩)
theorem p82 {k:Int} (h:2<=k/\k<=5) (v:FV) (hv:1<=v.k/\v.k<=5):CF Tryz.prog 82 ft82 (.int .i64 k::encV v) (RV (convV k v)):=by
 refine cf_tree (c:=c82) (n:=300) (t:=t82) mo ov rfl (λY _=>known0 _) (by kernel_rfl) λY hf hg=>?_
 unfold t82
 (refine it_c rfl rfl (λh=>?_) (λh=>?_)<;>simp only [Cmp,Decidable.not_not,Int.not_lt,Int.not_le]at h<;>try (exfalso;first|exact h trivial|omega))
 ·subst h
  (refine it_c rfl rfl (λh=>?_) (λh=>?_)<;>simp only [Cmp,Decidable.not_not,Int.not_lt,Int.not_le]at h<;>try (exfalso;first|exact h trivial|omega))
  ·exact finV (v:=v) rfl (by unfold convV;rw [if_pos rfl,if_pos h])
  ·have h5:=h
   (refine it_c rfl rfl (λh=>?_) (λh=>?_)<;>simp only [Cmp,Decidable.not_not,Int.not_lt,Int.not_le]at h<;>try (exfalso;first|exact h trivial|omega))
   exact VOK_lt (run_cif _) rfl (finV (v:=⟨5,0,some (FloatKind.f64.nearest v.i)⟩) rfl (by unfold convV;rw [if_pos rfl,if_neg h5]))
 have hk:2<=k/\k<=4:=by omega
 (refine it_c rfl rfl (λh=>?_) (λh=>?_)<;>simp only [Cmp,Decidable.not_not,Int.not_lt,Int.not_le]at h<;>try (exfalso;first|exact h trivial|omega))
 (refine it_c rfl rfl (λh=>?_) (λh=>?_)<;>simp only [Cmp,Decidable.not_not,Int.not_lt,Int.not_le]at h<;>try (exfalso;first|exact h trivial|omega))
 ·have h5:=h
  refine VOK_call (p122 hk v.f) rfl rfl ?_
  refine VOK_callF (p113 _) rfl ⟨?_,?_,trivial⟩
  ·rintro ws (⟨_,h0,rfl⟩|⟨h0,_⟩)
   ·cases hw:wholeV k v.f with
    |some n=>
     have e2:wholeN k v.f=n:=by unfold wholeN;rw [hw];rfl
     rw [←e2]at hw
     exact finV (v:=⟨k,wholeN k v.f,some 0⟩) rfl (by unfold convV;rw [if_neg (by omega),if_pos h5,hw])
    |none=>
     unfold wholeE at h0
     rw [hw]at h0
     cases h0
   ·cases h0
  ·rintro ws (⟨h0,_⟩|⟨_,h0,rfl⟩)
   ·cases h0
   ·cases hw:wholeV k v.f with
    |some n=>
     unfold wholeE at h0
     rw [hw]at h0
     exact absurd rfl h0
    |none=>
     have e1:wholeE k v.f=7:=by unfold wholeE;rw [hw];rfl
     exact finR (e:=7) (by rw [←e1];rfl) (by unfold convV;rw [if_neg (by omega),if_pos h5,hw])
 ·have h5:=h
  exact VOK_call (p123 _ _) rfl rfl (finV (v:=⟨k,wrapK k v.i,some 0⟩) rfl (by unfold convV;rw [if_neg (by omega),if_neg h5]))
def opX (op:Int) (a b:FV):Except Int FV:=if opE op a.k b=0 then .ok (opV op a.k a b)else .error (opE op a.k b)
theorem p83 {op:Int} {a b:FV} {l:List FV} (ho:OpK op a.k) (ha:TV a) (h0:∃h:0<l.length,l[0]=a) (h1:∃h:l.length-1<l.length,l[l.length-1]=b) (hl:l.length<=2):CF Tryz.prog 83 ft83 [.int .i64 op,encVs l] (RV (opX op a b)):=by
 obtain ⟨q0,e0⟩:=h0
 obtain ⟨q1,e1⟩:=h1
 refine cf_tree (c:=c83) (n:=300) (t:=t83) mo ov rfl (λY _=>known0 _) (by kernel_rfl) λY hf hg=>?_
 unfold t83
 refine VOK_lt (run_ia31 l (i:=0) q0) (encL_ok okV _) (VOK_ltN (run_ld46 l q0) rfl (okV _) (VOK_lt (run_len31 l) rfl ?_))
 refine VOK_lt (sub_c (z:=((l.length-1:Nat):Int)) (by omega) (by omega) (by omega)) rfl (VOK_lt (run_ia31 l q1) (encL_ok okV _) (VOK_ltN (run_ld46 l q1) rfl (okV _) ?_))
 rw [e0,e1]
 (refine it_c rfl rfl (λh=>?_) (λh=>?_)<;>simp only [Cmp,Decidable.not_not,Int.not_lt,Int.not_le]at h<;>try (exfalso;first|exact h trivial|omega))
 ·have h5:=h
  have hr:=opK_real (h5▸ho)
  have hw:opX op a b=.ok (realV op a.f b.f):=by unfold opX opE opV;rw [if_pos h5,if_pos rfl,if_pos h5]
  rw [realV_F hr]at hw
  refine VOK_call (p124 op a.f b.f hr) rfl (by simp only [okL,okC,fv_ok]) (VOK_lt rfl rfl (VOK_ite (t:=false) rfl (λh=>by cases h) (λ_=>?_)))
  (refine it_c rfl rfl (λh=>?_) (λh=>?_)<;>simp only [Cmp,Decidable.not_not,Int.not_lt,Int.not_le]at h<;>try (exfalso;first|exact h trivial|omega))
  ·(refine it_c rfl rfl (λh=>?_) (λh=>?_)<;>simp only [Cmp,Decidable.not_not,Int.not_lt,Int.not_le]at h<;>try (exfalso;first|exact h trivial|omega))
   ·rw [if_pos (by omega)]at hw
    exact VOK_call (p125 _) rfl rfl (finV rfl hw)
   ·rw [if_neg (by omega)]at hw
    exact finV (v:=⟨5,0,realF op a.f b.f⟩) rfl hw
  ·rw [if_neg (by omega)]at hw
   exact finV (v:=⟨5,0,realF op a.f b.f⟩) rfl hw
 have h5:=h
 refine VOK_call (p126 op a.k a.i b.i ho h5) rfl rfl ?_
 have he:opE op a.k b=intE op b.i:=by unfold opE;rw [if_neg h5]
 refine VOK_callF (p113 _) rfl ⟨?_,?_,trivial⟩
 ·rintro ws (⟨_,h0,rfl⟩|⟨h0,_⟩)
  ·have hi:intR op a.k a.i b.i=intV op a.k a.i b.i:=by unfold intR;rw [if_pos h0]
   have hw:opX op a b=.ok ⟨if 9<=op/\op<=12 then 1 else a.k,intR op a.k a.i b.i,some 0⟩:=by
    unfold opX opV;rw [he,if_pos h0,if_neg h5,hi]
   (refine it_c rfl rfl (λh=>?_) (λh=>?_)<;>simp only [Cmp,Decidable.not_not,Int.not_lt,Int.not_le]at h<;>try (exfalso;first|exact h trivial|omega))
   ·(refine it_c rfl rfl (λh=>?_) (λh=>?_)<;>simp only [Cmp,Decidable.not_not,Int.not_lt,Int.not_le]at h<;>try (exfalso;first|exact h trivial|omega))
    ·rw [if_pos (by omega)]at hw
     have ht:tI (decide (¬intR op a.k a.i b.i=0))=intR op a.k a.i b.i:=by
      rw [hi,cmpV_intV (by omega)]
      cases cmpV op a.i b.i<;>rfl
     refine VOK_lt (run_neq ..) rfl (VOK_call (p125 _) rfl rfl (finV (v:=⟨1,tI (decide (¬intR op a.k a.i b.i=0)),some 0⟩) ?_ (by rw [ht];exact hw)))
     by_cases hb:intR op a.k a.i b.i=0<;>simp [hb]<;>rfl
    ·rw [if_neg (by omega)]at hw
     exact finV (v:=⟨a.k,intR op a.k a.i b.i,some 0⟩) rfl hw
   ·rw [if_neg (by omega)]at hw
    exact finV (v:=⟨a.k,intR op a.k a.i b.i,some 0⟩) rfl hw
  ·cases h0
 ·rintro ws (⟨h0,_⟩|⟨_,h0,rfl⟩)
  ·cases h0
  ·exact finR (e:=intE op b.i) rfl (by unfold opX;rw [he,if_neg h0])
end Go.Proofs.YtjconanknjgpnaaGreat.vars
set_option maxRecDepth 100000
set_option linter.unusedVariables false
set_option linter.unusedSimpArgs false
namespace Go.Proofs.YtjconanknjgpnaaGreat.vars
open Go Go.Sx
def c23:VC:=⟨⟨[],[]⟩,[(23,[(some 3),none]),(51,[(some 3),none]),(50,[(some 3),none])],[(1,[⟨[(4,.ptr 1 0),(6,.slx 2 3 0),(7,.slx 1 0 0),(1,74),(2,.ptr 0 0)],[(1,[J 0,J 0,.flt .f64 0]),(0,[64,65,66,67,68,69,70,71,72,73])],3,2,[⟨2,3,0,6,none⟩],[],[]⟩])],0,true,[]⟩
def t23:VT:=
 (.lt (.bin .eql 3 false true) [64,J 1] 75 none
 (.ite 75
 (.done (.tup [.agg [70,71,72],J 0]))
 (.lt (.bin .eql 3 false true) [64,J 2] 76 none
 (.ite 76
 (.lt (.iaddr 31) [74,68] 77 none
 (.lt (.load 46) [77] 78 (some 3)
 (.done (.tup [.agg [78,79,80],J 0]))))
 (.loop 77 0 [.nsl,J 0]
 (.cons 2
 (.lt (.len 47) [73] 79 none
 (.lt (.bin .lss 3 false false) [78,79] 80 none
 (.ite 80
 (.lt (.iaddr 47) [73,78] 81 none
 (.lt (.load 49) [81] 82 (some 10)
 (.call 23 [.agg [82,83,84,85,86,87,88,89,90,91],74] 92 [(some 3),none]
 (.lt (.bin .neq 35 false true) [95,J 0] 96 none
 (.ite 96
 (.done (.tup [.agg [J 0,J 0,.flt .f64 0],95]))
 (.lt (.app 3 24) [77,.agg [92,93,94]] 97 none
 (.lt (.bin .add 3 false true) [78,J 1] 98 none
 (.again 0 0 [97,98]))))))))
 (.lt (.bin .eql 3 false true) [64,J 3] 81 none
 (.ite 81
 (.lt .inb [77,J 0] 82 none
 (.lt (.ldx 2 3 1) [77,82] 83 none
 (.lt (.bin .lss 2 false true) [83,J 0] 84 none
 (.ite 84
 (.done (.tup [.agg [J 0,J 0,.flt .f64 0],J 6]))
 (.lt .inb [77,J 0] 85 none
 (.lt (.ldx 2 3 1) [77,85] 86 none
 (.lt (.bin .geq 2 false false) [86,69] 87 none
 (.ite 87
 (.done (.tup [.agg [J 0,J 0,.flt .f64 0],J 6]))
 (.lt .inb [77,J 0] 88 none
 (.lt (.ldx 2 3 1) [77,88] 89 none
 (.lt (.bin .add 3 false false) [68,89] 90 none
 (.lt (.iaddr 31) [74,90] 91 none
 (.lt (.load 46) [91] 92 (some 3)
 (.done (.tup [.agg [92,93,94],J 0])))))))))))))))
 (.lt (.bin .eql 3 false true) [64,J 17] 82 none
 (.ite 82
 (.lt .inb [77,J 0] 83 none
 (.lt (.ldx 46 3 0) [77,83] 84 (some 3)
 (.call 50 [65,.agg [84,85,86]] 87 [(some 3),none]
 (.done (.tup [.agg [87,88,89],90])))))
 (.lt (.app 3 24) [77,.agg [J 0,J 0,.flt .f64 0]] 83 none
 (.lt (.iaddr 47) [73,J 0] 84 none
 (.lt (.faddr 49 1) [84] 85 none
 (.lt (.load 3) [85] 86 none
 (.lt .inb [83,J 0] 87 none
 (.lt (.ldx 46 3 0) [83,87] 88 (some 3)
 (.lt .inb [83,J 1] 91 none
 (.lt (.ldx 46 3 0) [83,91] 92 (some 3)
 (.call 51 [64,86,.agg [88,89,90],.agg [92,93,94]] 95 [(some 3),none]
 (.done (.tup [.agg [95,96,97],98]))))))))))))))))))
 .nil))))))
def outV (r:Except Int FV):FV:=match r with
 | .ok v=>v
 | .error _=>FV.z
def outE (r:Except Int FV):Int:=match r with
 | .ok _=>0
 | .error e=>e
def OUT (r:Except Int FV):AV:=.tup [.agg (encV (outV r)),.int .i64 (outE r)]
theorem out_ok {r:Except Int FV} {v:FV} (h:r=.ok v):AV.tup [.agg (encV v),.int .i64 0]=OUT r:=by rw [h];rfl
theorem out_er {r:Except Int FV} {e:Int} (h:r=.error e):AV.tup [.agg (encV FV.z),.int .i64 e]=OUT r:=by rw [h];rfl
theorem out_nr (r:Except Int FV):noRef (OUT r)=true:=noRefVE _ _
theorem convWE (k:Int) (v:FV):AV.tup [.agg (encV (convW k v)),.int .i64 (convE k v)]=OUT (convV k v):=by
 unfold convW convE OUT outV outE
 cases convV k v<;>rfl
theorem opWE (op:Int) (a b:FV):AV.tup [.agg (encV (opW op a.k a b)),.int .i64 (opE op a.k b)]=OUT (opX op a b):=by
 unfold opW opX OUT outV outE
 split
 ·rename_i h;rw [h]
 ·rfl
theorem run_app3 (l:List FV) (s:FV) (hl:l.length<=100000):(XOp.app 3 24).run Tryz.prog [encVs l,.agg (encV s)]=some (encVs (l++[s])):=
 run_app_sl lenV (by decide) (by decide) l s (by omega)
def Rest (mem:List FV) (args:List GX) (acc:List FV) (i:Nat):Prop:=evalL mem args=(match evalL mem (args.drop i)with
 | .error e=>.error e
 | .ok l=>.ok (acc++l))
theorem rest_0 (mem:List FV) (args:List GX):Rest mem args [] 0:=by
 unfold Rest
 rw [List.drop_zero]
 cases evalL mem args<;>rfl
theorem rest_er {mem:List FV} {args:List GX} {acc:List FV} {i:Nat} {e:Int} (h:Rest mem args acc i) (hi:i<args.length) (he:evalX mem args[i]=.error e):evalL mem args=.error e:=by
 unfold Rest at h
 rw [h,List.drop_eq_getElem_cons hi,evalL,he]
theorem rest_ok {mem:List FV} {args:List GX} {acc:List FV} {i:Nat} {v:FV} (h:Rest mem args acc i) (hi:i<args.length) (he:evalX mem args[i]=.ok v):Rest mem args (acc++[v]) (i+1):=by
 unfold Rest at*
 rw [h,List.drop_eq_getElem_cons hi,evalL,he]
 cases evalL mem (args.drop (i+1))with
 |error e=>rfl
 |ok l=>simp
theorem rest_end {mem:List FV} {args:List GX} {acc:List FV} (h:Rest mem args acc args.length):evalL mem args=.ok acc:=by
 unfold Rest at h
 rw [List.drop_length,evalL]at h
 simpa using h
theorem evalX_args {mem:List FV} {op kd:Int} {nm fd:List UInt8} {ad n vk vi:Int} {vf:Nat} {args:List GX} (h1:op≠1) (h2:op≠2) {l:List FV} (h:evalL mem args=.ok l):evalX mem (.mk op kd nm fd ad n vk vi vf args)=madeX mem op kd ad n (l.headD FV.z) (l.getLastD FV.z):=by
 rw [evalX,if_neg h1,if_neg h2,h]
theorem evalX_argE {mem:List FV} {op kd:Int} {nm fd:List UInt8} {ad n vk vi:Int} {vf:Nat} {args:List GX} (h1:op≠1) (h2:op≠2) {e:Int} (h:evalL mem args=.error e):evalX mem (.mk op kd nm fd ad n vk vi vf args)=.error e:=by
 rw [evalX,if_neg h1,if_neg h2,h]
theorem evalX_lit {mem:List FV} {op kd:Int} {nm fd:List UInt8} {ad n vk vi:Int} {vf:Nat} {args:List GX} (h1:op=1):evalX mem (.mk op kd nm fd ad n vk vi vf args)=.ok ⟨vk,vi,some vf⟩:=by
 rw [evalX,if_pos h1]
theorem evalX_cell {mem:List FV} {op kd:Int} {nm fd:List UInt8} {ad n vk vi:Int} {vf:Nat} {args:List GX} (h1:op=2):evalX mem (.mk op kd nm fd ad n vk vi vf args)=.ok (cell mem ad):=by
 rw [evalX,if_neg (by omega),if_pos h1]
theorem opX_un {op:Int} {a:FV} (b c:FV) (h:op=15\/op=16) (ho:OpK op a.k):opX op a b=opX op a c:=by
 have e:∀d:FV,opE op a.k d=0:=λd=>by
  unfold opE
  split
  ·rfl
  ·exact intE0 (by omega)
 have v:opV op a.k a b=opV op a.k a c:=by
  unfold opV
  split
  ·rename_i h5
   have h16:op=16:=by unfold OpK at ho;omega
   subst h16
   rfl
  ·rcases h with rfl|rfl<;>rfl
 unfold opX
 rw [if_pos (e b),if_pos (e c),v]
def tailX:GX->List AV
 | .mk op kd nm fd ad n vk vi vf args=>[.int .i64 kd,.str nm,.str fd,.int .i64 ad,.int .i64 n,.int .i64 vk,.int .i64 vi,.flt .f64 vf,encA args]
theorem fa49_1 (y:GX) (r:List AV):(XOp.faddr 49 1).run Tryz.prog [.vptr (encX y++r)]=some (.vptr (tailX y++r)):=by
 obtain ⟨yo,yk',ynm,yfd,yad,yn,yvk,yvi,yvf,ya⟩:=y
 rfl
theorem ok_tail (y:GX):okL (tailX y)=true:=by
 obtain ⟨yo,yk',ynm,yfd,yad,yn,yvk,yvi,yvf,ya⟩:=y
 simp only [tailX,okL,okC,okA]
theorem ld3_tail (y:GX) (r:List AV):(XOp.load 3).run Tryz.prog [.vptr (tailX y++r)]=some (.int .i64 y.kd):=by
 obtain ⟨yo,yk',ynm,yfd,yad,yn,yvk,yvi,yvf,ya⟩:=y
 exact run_load_one Tryz.underlying3 rfl _ _
theorem mapX_one {l:List GX} {k:Int} (h:l.map GX.kd=[k]):∃y,l=[y]/\y.kd=k:=by
 match l,h with
 |[],h=>cases h
 |[a],h=>exact ⟨a,rfl,by simpa using h⟩
 |_::_::_,h=>simp at h
theorem mapX_two {l:List GX} {k m:Int} (h:l.map GX.kd=[k,m]):∃y z,l=[y,z]/\y.kd=k/\z.kd=m:=by
 match l,h with
 |[],h=>cases h
 |[a],h=>simp at h
 |[a,b],h=>exact ⟨a,b,rfl,by simpa using h⟩
 |_::_::_::_,h=>simp at h
theorem p23 {mem:List FV} (hm:MemOk mem):∀(d:Nat) (x:GX),TX d x->Pure Tryz.prog 23 [.agg (encX x),encVs mem] (OUT (evalX mem x))
 |0,_,h=>h.elim
 |d+1,.mk op kd nm fd ad n vk vi vf args,hx=>by
  have hlen:=hm.len
  have ih:=λ(z:GX) (hz:z∈args)=>p23 hm d z (hx.2.2.2.2.2 z hz)
  have hA:=hx.1
  have hal:args.length<=2:=by unfold Ari at hA;omega
  have hop:=TX_op hx
  refine pure_shape (sh:=[some 10,none]) (ls:=encX (.mk op kd nm fd ad n vk vi vf args)++[encVs mem]) (c:=c23) (n:=300) (t:=t23) mo ov rfl (encL_ok.okL_join (okX _) (by simp only [okL,okVs])) (out_nr _) (λY _=>known0 _) rfl (by kernel_rfl) λY hf hg=>?_
  unfold t23
  (refine it_c rfl rfl (λh=>?_) (λh=>?_)<;>simp only [Cmp,Decidable.not_not,Int.not_lt,Int.not_le]at h<;>try (exfalso;first|exact h trivial|omega))
  ·exact VOK_done (out_ok (v:=⟨vk,vi,some vf⟩) (evalX_lit h))
  have n1:=h
  (refine it_c rfl rfl (λh=>?_) (λh=>?_)<;>simp only [Cmp,Decidable.not_not,Int.not_lt,Int.not_le]at h<;>try (exfalso;first|exact h trivial|omega))
  ·obtain ⟨_,_,a0,a1⟩:=cell_TV hm hx h
   obtain ⟨m,rfl⟩:∃m:Nat,ad=(m:Int):=⟨ad.toNat,by omega⟩
   have hml:m<mem.length:=by omega
   refine VOK_lt (run_ia31 mem hml) (encL_ok okV _) (VOK_ltN (run_ld46 mem hml) rfl (okV _) ?_)
   exact VOK_done (out_ok (v:=mem[m]) (by rw [evalX_cell h,cell_eq hml]))
  have n2:=h
  refine VOK_loop (ι:=List FV×Nat) (λs=>[encVs s.1,.int .i64 (s.2:Int)]) (λs=>s.1.length=s.2/\s.2<=args.length/\Rest mem args s.1 s.2) (λs=>args.length-s.2) ([],0) ⟨rfl,Nat.zero_le _,rest_0 _ _⟩ rfl (λs _=>by simp only [okL,okC,okVs]) (λs s' _ _ h=>by simp at h;omega) (λs hs=>?_)
  obtain ⟨acc,i⟩:=s
  obtain ⟨h1,h2,h3⟩:=hs
  simp only at h1 h2 h3⊢
  refine VOK_lt (run_len38 args) rfl ?_
  (refine it_c rfl rfl (λh=>?_) (λh=>?_)<;>simp only [Cmp,Decidable.not_not,Int.not_lt,Int.not_le]at h<;>try (exfalso;first|exact h trivial|omega))
  ·have hi:i<args.length:=by omega
   have hld:=run_ld40 args hi
   have hz:=ih args[i] (List.getElem_mem hi)
   have hrx:=λv=>rest_ok (v:=v) h3 hi
   have hre:=λe=>rest_er (e:=e) h3 hi
   rcases hzz:args[i]with ⟨zo,zk,znm,zfd,zad,zn,zvk,zvi,zvf,za⟩
   rw [hzz]at hld hz hrx hre
   refine VOK_lt (run_ia38 args hi) (encL_ok okX _) (VOK_ltN hld rfl (okX _) ?_)
   have hzv:∀r,evalX mem (.mk zo zk znm zfd zad zn zvk zvi zvf za)=r->Pure Tryz.prog 23 [.agg (encX (.mk zo zk znm zfd zad zn zvk zvi zvf za)),encVs mem] (OUT r):=λr hr=>hr▸hz
   cases hr:evalX mem (.mk zo zk znm zfd zad zn zvk zvi zvf za)with
   |error e=>
    have e0:=evalX_err _ _ hr
    refine VOK_call (vs:=encV FV.z++[.int .i64 e]) (hzv _ hr) rfl rfl ?_
    (refine it_c rfl rfl (λh=>?_) (λh=>?_)<;>simp only [Cmp,Decidable.not_not,Int.not_lt,Int.not_le]at h<;>try (exfalso;first|exact h trivial|omega))
    exact VOK_done (out_er (e:=e) (evalX_argE n1 n2 (hre e hr)))
   |ok v=>
    refine VOK_call (vs:=encV v++[.int .i64 0]) (hzv _ hr) rfl (okVI _ _) ?_
    (refine it_c rfl rfl (λh=>?_) (λh=>?_)<;>simp only [Cmp,Decidable.not_not,Int.not_lt,Int.not_le]at h<;>try (exfalso;first|exact h trivial|omega))
    exact VOK_lt (run_app3 acc v (by omega)) (okVs _) (VOK_lt (add_c (by omega) (by omega)) rfl (VOK_again rfl ⟨(acc++[v],i+1),⟨by simp;omega,hi,hrx v hr⟩,rfl,by simp only;omega⟩))
  have hi:i=args.length:=by omega
  subst hi
  have hL:=rest_end h3
  have hV:=evalL_TV (evalX_TV hm d) args hx.2.2.2.2.2 acc hL
  have hX:=evalX_args (mem:=mem) (kd:=kd) (nm:=nm) (fd:=fd) (ad:=ad) (n:=n) (vk:=vk) (vi:=vi) (vf:=vf) n1 n2 hL
  obtain ⟨a,b,ea,eb,ta,tb,k3,k17,ko,_⟩:=madeX_TV hm hx n1 n2 hV
  rw [ea,eb]at hX
  have q3:=hx.2.2.2.2.1.2.2.1
  have q17:=hx.2.2.2.2.1.2.2.2.2.2.2
  (refine it_c rfl rfl (λh=>?_) (λh=>?_)<;>simp only [Cmp,Decidable.not_not,Int.not_lt,Int.not_le]at h<;>try (exfalso;first|exact h trivial|omega))
  ·have e3:=h
   obtain ⟨ka,rfl⟩:=k3 h
   obtain ⟨rfl,rfl,rfl,_⟩:=q3 h
   have hX:evalX mem (.mk op 2 nm fd 8 4 vk vi vf args)=(if a.i<0\/4<=a.i then .error 6 else .ok (cell mem (8+a.i))):=by rw [hX,madeX,if_pos e3]
   refine VOK_lt rfl rfl (VOK_lt (r:=.int .i64 a.i) rfl rfl ?_)
   (refine it_c rfl rfl (λh=>?_) (λh=>?_)<;>simp only [Cmp,Decidable.not_not,Int.not_lt,Int.not_le]at h<;>try (exfalso;first|exact h trivial|omega))
   ·exact VOK_done (out_er (e:=6) (by rw [hX,if_pos (.inl h)]))
   refine VOK_lt rfl rfl (VOK_lt (r:=.int .i64 a.i) rfl rfl ?_)
   (refine it_c rfl rfl (λh=>?_) (λh=>?_)<;>simp only [Cmp,Decidable.not_not,Int.not_lt,Int.not_le]at h<;>try (exfalso;first|exact h trivial|omega))
   ·exact VOK_done (out_er (e:=6) (by rw [hX,if_pos (.inr h)]))
   have hr:¬(a.i<0\/4<=a.i):=by omega
   rw [if_neg hr]at hX
   obtain ⟨m,em⟩:∃m:Nat,8+a.i=(m:Int):=⟨(8+a.i).toNat,by omega⟩
   have hml:m<mem.length:=by omega
   rw [em,cell_eq hml]at hX
   refine VOK_lt rfl rfl (VOK_lt (r:=.int .i64 a.i) rfl rfl (VOK_lt (add_c (by omega) (by omega)) rfl ?_))
   rw [em]
   exact VOK_lt (run_ia31 mem hml) (encL_ok okV _) (VOK_ltN (run_ld46 mem hml) rfl (okV _) (VOK_done (out_ok (v:=mem[m]) hX)))
  have n3:=h
  rw [madeX,if_neg n3]at hX
  (refine it_c rfl rfl (λh=>?_) (λh=>?_)<;>simp only [Cmp,Decidable.not_not,Int.not_lt,Int.not_le]at h<;>try (exfalso;first|exact h trivial|omega))
  ·have e17:=h
   obtain ⟨ka,kb,rfl⟩:=k17 h
   rw [if_pos e17]at hX
   refine VOK_lt rfl rfl (VOK_ltN (cs:=encV a) rfl rfl (okV _) ?_)
   refine VOK_call (vs:=encV (convW kd a)++[.int .i64 (convE kd a)]) (p50 (by have:=q17 e17;omega) a ⟨by omega,by omega⟩) rfl (okVI _ _) (VOK_done ?_)
   show AV.tup [.agg (encV (convW kd a)),.int .i64 (convE kd a)]=_
   rw [convWE,hX]
  have n17:=h
  obtain ⟨oK,bk,ok,hvs⟩:=ko n3 n17
  rw [if_neg n17]at hX
  have hks:=hV.1
  rcases hvs with ⟨rfl,hu⟩|⟨rfl,hu⟩
  ·obtain ⟨y,rfl,yk⟩:=mapX_one hks.symm
   refine VOK_lt (run_app3 [a] FV.z (by simp)) (okVs _) (VOK_lt (run_ia38 [y] (i:=0) (by simp)) (encL_ok okX _) (VOK_lt (fa49_1 y _) (encL_ok.okL_join (ok_tail y) (encL_ok okX _)) (VOK_lt (ld3_tail y _) rfl ?_)))
   rw [yk]
   refine VOK_lt rfl rfl (VOK_ltN (cs:=encV a) rfl rfl (okV _) (VOK_lt rfl rfl (VOK_ltN (cs:=encV FV.z) rfl rfl rfl ?_)))
   refine VOK_call (vs:=encV (opW op a.k a FV.z)++[.int .i64 (opE op a.k FV.z)]) (p51 oK ta rfl) rfl (okVI _ _) (VOK_done ?_)
   show AV.tup [.agg (encV (opW op a.k a FV.z)),.int .i64 (opE op a.k FV.z)]=_
   rw [opWE,hX,opX_un FV.z b hu oK]
   rfl
  ·obtain ⟨y,z,rfl,yk,zk⟩:=mapX_two hks.symm
   refine VOK_lt (run_app3 [a,b] FV.z (by simp)) (okVs _) (VOK_lt (run_ia38 [y,z] (i:=0) (by simp)) (encL_ok okX _) (VOK_lt (fa49_1 y _) (encL_ok.okL_join (ok_tail y) (encL_ok okX _)) (VOK_lt (ld3_tail y _) rfl ?_)))
   rw [yk]
   refine VOK_lt rfl rfl (VOK_ltN (cs:=encV a) rfl rfl (okV _) (VOK_lt rfl rfl (VOK_ltN (cs:=encV b) rfl rfl (okV _) ?_)))
   refine VOK_call (vs:=encV (opW op a.k a b)++[.int .i64 (opE op a.k b)]) (p51 oK ta rfl) rfl (okVI _ _) (VOK_done ?_)
   show AV.tup [.agg (encV (opW op a.k a b)),.int .i64 (opE op a.k b)]=_
   rw [opWE,hX]
   rfl
end Go.Proofs.YtjconanknjgpnaaGreat.vars
set_option linter.unusedVariables false
set_option linter.unusedSimpArgs false
namespace Go.Sx
section
variable {P:Program} {t:TypeId} {ti:TypeInfo} {α:Type} {enc:α->List AV} {w:Nat}
theorem run_ldx1 {d:TypeDesc} (ht:P.underlying t=some d) (ha:aggB d=false) (hw:∀a,(enc a).length=w) {l:List α} {i:Nat} (hi:i<l.length) {off:Nat} {v:AV} {p r:List AV} (he:enc l[i]=p++(v::r)) (hp:p.length=off) (k:IntKind):(XOp.ldx t w off).run P [sliceOf enc w l,.int k (i:Int)]=some v:=by
 obtain ⟨a,b,e1,e2,_⟩:=cut_at hw l hi
 obtain ⟨x0,l',rfl⟩:∃x l',l=x::l':=by cases l with|nil=>simp at hi|cons x l'=>exact ⟨x,l',rfl⟩
 show evLoad P (row0 (encL enc (x0::l'))) t (.ptr 0 (i*w+off))=_
 unfold evLoad
 simp only [ht,ha]
 have hg:(row0 (encL enc (x0::l'))).get 0=some (.cells (encL enc (x0::l'))):=rfl
 unfold cellsAt
 simp only [hg]
 have hd:dropA (i*w+off) (encL enc (x0::l'))=v::(r++b):=by
  rw [dropA_eq,e1,he,←e2,←hp]
  rw [show a++(p++v::r++b)=(a++p)++(v::(r++b)) by simp [List.append_assoc]]
  rw [←List.length_append,List.drop_left]
 rw [hd]
 rfl
theorem run_ldxN {d:TypeDesc} (ht:P.underlying t=some d) (ha:aggB d=true) (hinf:P.info? t=some ti) (hs:ti.size=w) (hw:∀a,(enc a).length=w) {l:List α} {i:Nat} (hi:i<l.length) (k:IntKind):(XOp.ldx t w 0).run P [sliceOf enc w l,.int k (i:Int)]=some (.agg (enc l[i])):=by
 obtain ⟨a,b,e1,e2,_⟩:=cut_at hw l hi
 obtain ⟨x0,l',rfl⟩:∃x l',l=x::l':=by cases l with|nil=>simp at hi|cons x l'=>exact ⟨x,l',rfl⟩
 show evLoad P (row0 (encL enc (x0::l'))) t (.ptr 0 (i*w+0))=_
 unfold evLoad
 simp only [ht,ha,hinf]
 have hg:(row0 (encL enc (x0::l'))).get 0=some (.cells (encL enc (x0::l'))):=rfl
 unfold cellsAt
 simp only [hg]
 have hd:dropA (i*w+0) (encL enc (x0::l'))=enc (x0::l')[i]++b:=by
  rw [dropA_eq,e1,Nat.add_zero,←e2,List.drop_left]
 have hl:ti.size=(enc (x0::l')[i]).length:=by rw [hs,hw]
 rw [hd,hl,takeEx_left]
end
end Go.Sx
set_option maxRecDepth 100000
set_option linter.unusedVariables false
set_option linter.unusedSimpArgs false
namespace Go.Proofs.YtjconanknjgpnaaGreat.vars
open Go Go.Sx
def c81:VC:=⟨⟨[],[]⟩,[],[],2,true,[(49,ft49),(113,ft113)]⟩
def t81:VT:=
 (.lt (.iaddr 47) [76,J 0] 77 none
 (.lt (.load 49) [77] 78 (some 10)
 (.callF 49 ft49 [64,65,66,78,79,80,81,82,83,84,85,86,87] 88
 (.cons 3
 (.lt (.bin .lss 2 false true) [102,J 0] 104 none
 (.ite 104
 (.callF 113 ft113 [J 6] 105
 (.cons 0
 (.lt (.bin .add 3 false false) [71,102] 106 none
 (.done (.tup [J 0,106])))
 (.cons 1
 (.done (.tup [J 1,106]))
 .nil)))
 (.lt (.bin .geq 2 false false) [102,72] 105 none
 (.ite 105
 (.callF 113 ft113 [J 6] 106
 (.cons 0
 (.lt (.bin .add 3 false false) [71,102] 107 none
 (.done (.tup [J 0,107])))
 (.cons 1
 (.done (.tup [J 1,107]))
 .nil)))
 (.lt (.bin .add 3 false false) [71,102] 106 none
 (.done (.tup [J 0,106])))))))
 (.cons 1
 (.done (.tup [J 1,101]))
 .nil)))))
def c49:VC:=⟨⟨[],[]⟩,[],[(1,[⟨[(49,.slx 0 0 0),(0,.ptr 0 0),(5,.slx 4 3 1),(47,76),(3,.ptr 2 0),(4,.ptr 3 0),(48,81)],[(0,[.ptx 1 64 3 0,65,66]),(2,[67,68,69,70,71,72,73,74,75,76]),(3,[J 0,J 0,.flt .f64 0])],5,2,[⟨4,3,1,5,none⟩],[],[(1,64)]⟩])],2,true,[(49,ft49),(81,ft81),(82,ft82),(83,ft83)]⟩
def t49:VT:=
 (.lt (.bin .eql 3 false true) [67,J 1] 77 none
 (.ite 77
 (.done (.tup [J 0,73,74,75]))
 (.lt (.bin .eql 3 false true) [67,J 2] 78 none
 (.ite 78
 (.lt .inb [64,71] 79 none
 (.lt (.ldx 46 3 0) [64,79] 80 (some 3)
 (.done (.tup [J 0,80,81,82]))))
 (.lt (.bin .eql 3 false true) [67,J 3] 79 none
 (.ite 79
 (.callF 81 ft81 [64,65,66,67,68,69,70,71,72,73,74,75,76] 80
 (.cons 1
 (.lt .inb [64,93] 94 none
 (.lt (.ldx 46 3 0) [64,94] 95 (some 3)
 (.done (.tup [J 0,95,96,97]))))
 (.cons 1
 (.done (.tup [J 1,93]))
 .nil)))
 (.lt (.bin .eql 3 false true) [67,J 17] 80 none
 (.ite 80
 (.lt (.iaddr 47) [76,J 0] 81 none
 (.lt (.load 49) [81] 82 (some 10)
 (.callF 49 ft49 [64,65,66,82,83,84,85,86,87,88,89,90,91] 92
 (.cons 3
 (.callF 82 ft82 [68,105,106,107] 108
 (.cons 3
 (.done (.tup [J 0,112,113,114]))
 (.cons 1
 (.done (.tup [J 1,112]))
 .nil)))
 (.cons 1
 (.done (.tup [J 1,105]))
 .nil)))))
 (.lt (.len 47) [76] 81 none
 (.loop 82 0 [J 0,.nsl]
 (.cons 2
 (.lt (.bin .lss 3 false false) [82,81] 84 none
 (.ite 84
 (.lt (.iaddr 47) [76,82] 85 none
 (.lt (.load 49) [85] 86 (some 10)
 (.callF 49 ft49 [64,65,66,86,87,88,89,90,91,92,93,94,95] 96
 (.cons 3
 (.lt (.app 3 24) [83,.agg [109,110,111]] 112 none
 (.lt (.bin .add 3 false true) [82,J 1] 113 none
 (.again 0 0 [113,112])))
 (.cons 1
 (.done (.tup [J 1,109]))
 .nil)))))
 (.callF 83 ft83 [67,83] 85
 (.cons 3
 (.done (.tup [J 0,87,88,89]))
 (.cons 1
 (.done (.tup [J 1,87]))
 .nil)))))
 .nil)))))))))))
theorem run_inbV (l:List FV) {i:Nat} (hi:i<l.length):(XOp.inb).run Tryz.prog [encVs l,.int .i64 (i:Int)]=some (.int .i64 (i:Int)):=run_inb (enc:=encV) hi .i64
theorem run_ldxV (l:List FV) {i:Nat} (hi:i<l.length):(XOp.ldx 46 3 0).run Tryz.prog [encVs l,.int .i64 (i:Int)]=some (.agg (encV l[i])):=
 run_ldxN (ti:=(Tryz.prog.info? 46).get!) Tryz.underlying46 rfl (by kernel_rfl) (by kernel_rfl) lenV hi .i64
def MR (mem:List FV) (now left:Int):List AV:=[encVs mem,.int .i64 now,.int .i64 left]
theorem okMR (mem:List FV) (now left:Int) {l:List AV} (h:okL l=true):okL (MR mem now left++l)=true:=encL_ok.okL_join (by simp only [MR,okL,okC,okVs]) h
theorem okMX (mem:List FV) (now left:Int) (x:GX):okL (MR mem now left++encX x)=true:=okMR _ _ _ (okX x)
def RP (mem:List FV) (x:GX):Nat->List AV->Prop:=λj ws=>(match x with| .mk op kd nm fd ad n vk vi vf args=>∃a,evalL mem args=.ok [a]/\0<=a.i/\a.i<n/\j=0/\ws=[.int .i64 (ad+a.i)])\/(∃e,evalX mem x=.error e/\j=1/\ws=[.int .i64 e])
def P49 (mem:List FV) (now left:Int) (d:Nat):Prop:=∀x,TX d x->CF Tryz.prog 49 ft49 (MR mem now left++encX x) (RV (evalX mem x))
theorem evalL_one {mem:List FV} {y:GX} {v:FV} (h:evalX mem y=.ok v):evalL mem [y]=.ok [v]:=by simp only [evalL,h]
theorem evalL_oneE {mem:List FV} {y:GX} {e:Int} (h:evalX mem y=.error e):evalL mem [y]=.error e:=by simp only [evalL,h]
theorem p81 {mem:List FV} {now left:Int} {d:Nat} (hm:MemOk mem) (ih:P49 mem now left d) {op kd:Int} {nm fd:List UInt8} {ad n vk vi:Int} {vf:Nat} {args:List GX} (hx:TX (d+1) (.mk op kd nm fd ad n vk vi vf args)) (h3:op=3):
  CF Tryz.prog 81 ft81 (MR mem now left++encX (.mk op kd nm fd ad n vk vi vf args)) (RP mem (.mk op kd nm fd ad n vk vi vf args)):=by
 have n1:op≠1:=by omega
 have n2:op≠2:=by omega
 obtain ⟨q1,q2,q3,k,q4,q5⟩:=hx.2.2.2.2.1.2.2.1 h3
 obtain ⟨y,rfl,yk⟩:=mapX_one q4
 have hy:=hx.2.2.2.2.2 y (List.mem_singleton.2 rfl)
 have hz:=ih y hy
 have hX:∀a,evalX mem y=.ok a->evalX mem (.mk op kd nm fd ad n vk vi vf [y])=(if a.i<0\/n<=a.i then .error 6 else .ok (cell mem (ad+a.i))):=λa ha=>by
  rw [evalX_args n1 n2 (evalL_one ha)]
  show madeX mem op kd ad n a a=_
  rw [madeX,if_pos h3]
 refine cf_tree (c:=c81) (n:=300) (t:=t81) mo ov rfl (λY _=>known0 _) (by kernel_rfl) λY hf hg=>?_
 unfold t81
 refine VOK_lt (run_ia38 [y] (i:=0) (by simp)) (encL_ok okX _) ?_
 have hld:=run_ld40 [y] (i:=0) (by simp)
 rcases hzz:y with ⟨zo,zk,znm,zfd,zad,zn,zvk,zvi,zvf,za⟩
 rw [hzz]at hld hz hX
 refine VOK_ltN hld rfl (okX _) (VOK_callF hz (okMX mem now left (.mk zo zk znm zfd zad zn zvk zvi zvf za)) ⟨?_,?_,trivial⟩)
 ·rintro ws (⟨a,ha,_,rfl⟩|⟨_,_,h0,_⟩)
  ·(refine it_c rfl rfl (λh=>?_) (λh=>?_)<;>simp only [Cmp,Decidable.not_not,Int.not_lt,Int.not_le]at h<;>try (exfalso;first|exact h trivial|omega))
   ·refine VOK_callF (p113 6) rfl ⟨?_,?_,trivial⟩
    ·rintro ws (⟨_,h0,_⟩|⟨h0,_⟩)
     ·cases h0
     ·cases h0
    ·rintro ws (⟨h0,_⟩|⟨_,_,rfl⟩)
     ·cases h0
     ·exact VOK_fin rfl (.inr ⟨6,by rw [hX a ha,if_pos (.inl h)],rfl,rfl⟩)
   (refine it_c rfl rfl (λh=>?_) (λh=>?_)<;>simp only [Cmp,Decidable.not_not,Int.not_lt,Int.not_le]at h<;>try (exfalso;first|exact h trivial|omega))
   ·refine VOK_callF (p113 6) rfl ⟨?_,?_,trivial⟩
    ·rintro ws (⟨_,h0,_⟩|⟨h0,_⟩)
     ·cases h0
     ·cases h0
    ·rintro ws (⟨h0,_⟩|⟨_,_,rfl⟩)
     ·cases h0
     ·exact VOK_fin rfl (.inr ⟨6,by rw [hX a ha,if_pos (.inr h)],rfl,rfl⟩)
   ·exact VOK_lt (add_c (by omega) (by omega)) rfl (VOK_fin rfl (.inl ⟨a,by rw [evalL_one ha],by omega,by omega,rfl,rfl⟩))
  ·cases h0
 ·rintro ws (⟨_,_,h0,_⟩|⟨e,he,_,rfl⟩)
  ·cases h0
  ·exact VOK_fin rfl (.inr ⟨e,evalX_argE n1 n2 (evalL_oneE he),rfl,rfl⟩)
theorem p49 {mem:List FV} (hm:MemOk mem) (now left:Int):∀d:Nat,P49 mem now left d
 |0,_,h=>h.elim
 |d+1,.mk op kd nm fd ad n vk vi vf args,hx=>by
  have hlen:=hm.len
  have ih:=p49 hm now left d
  have hA:=hx.1
  have hal:args.length<=2:=by unfold Ari at hA;omega
  have hop:=TX_op hx
  refine cf_tree (c:=c49) (n:=300) (t:=t49) mo ov rfl (λY _=>known0 _) (by kernel_rfl) λY hf hg=>?_
  unfold t49
  (refine it_c rfl rfl (λh=>?_) (λh=>?_)<;>simp only [Cmp,Decidable.not_not,Int.not_lt,Int.not_le]at h<;>try (exfalso;first|exact h trivial|omega))
  ·exact finV (v:=⟨vk,vi,some vf⟩) rfl (evalX_lit h)
  have n1:=h
  (refine it_c rfl rfl (λh=>?_) (λh=>?_)<;>simp only [Cmp,Decidable.not_not,Int.not_lt,Int.not_le]at h<;>try (exfalso;first|exact h trivial|omega))
  ·obtain ⟨_,_,a0,a1⟩:=cell_TV hm hx h
   obtain ⟨m,rfl⟩:∃m:Nat,ad=(m:Int):=⟨ad.toNat,by omega⟩
   have hml:m<mem.length:=by omega
   refine VOK_lt (run_inbV mem hml) rfl (VOK_ltN (run_ldxV mem hml) rfl (okV _) ?_)
   exact finV (v:=mem[m]) rfl (by rw [evalX_cell h,cell_eq hml])
  have n2:=h
  (refine it_c rfl rfl (λh=>?_) (λh=>?_)<;>simp only [Cmp,Decidable.not_not,Int.not_lt,Int.not_le]at h<;>try (exfalso;first|exact h trivial|omega))
  ·have e3:=h
   refine VOK_callF (p81 hm ih hx e3) (okMX mem now left (.mk op kd nm fd ad n vk vi vf args)) ⟨?_,?_,trivial⟩
   ·rintro ws (⟨a,ha,a0,a1,_,rfl⟩|⟨_,_,h0,_⟩)
    ·obtain ⟨q1,q2,_⟩:=hx.2.2.2.2.1.2.2.1 e3
     obtain ⟨m,em⟩:∃m:Nat,ad+a.i=(m:Int):=⟨(ad+a.i).toNat,by omega⟩
     have hml:m<mem.length:=by omega
     rw [em]
     refine VOK_lt (run_inbV mem hml) rfl (VOK_ltN (run_ldxV mem hml) rfl (okV _) ?_)
     refine finV (v:=mem[m]) rfl ?_
     rw [evalX_args n1 n2 ha]
     show madeX mem op kd ad n a a=_
     rw [madeX,if_pos e3,if_neg (by omega),em,cell_eq hml]
    ·cases h0
   ·rintro ws (⟨_,_,_,_,h0,_⟩|⟨e,he,_,rfl⟩)
    ·cases h0
    ·exact finR rfl he
  have n3:=h
  (refine it_c rfl rfl (λh=>?_) (λh=>?_)<;>simp only [Cmp,Decidable.not_not,Int.not_lt,Int.not_le]at h<;>try (exfalso;first|exact h trivial|omega))
  ·have e17:=h
   obtain ⟨q1,q2,k,q4,q5,q6⟩:=hx.2.2.2.2.1.2.2.2.2.2.2 e17
   obtain ⟨y,rfl,yk⟩:=mapX_one q4
   have hy:=hx.2.2.2.2.2 y (List.mem_singleton.2 rfl)
   have hz:=ih y hy
   have hT:=evalX_TV hm d y hy
   have hX:∀a,evalX mem y=.ok a->evalX mem (.mk op kd nm fd ad n vk vi vf [y])=convV kd a:=λa ha=>by
    rw [evalX_args n1 n2 (evalL_one ha)]
    show madeX mem op kd ad n a a=_
    rw [madeX,if_neg n3,if_pos e17]
   have hE:∀e,evalX mem y=.error e->evalX mem (.mk op kd nm fd ad n vk vi vf [y])=.error e:=λe he=>evalX_argE n1 n2 (evalL_oneE he)
   refine VOK_lt (run_ia38 [y] (i:=0) (by simp)) (encL_ok okX _) ?_
   have hld:=run_ld40 [y] (i:=0) (by simp)
   rcases hzz:y with ⟨zo,zk,znm,zfd,zad,zn,zvk,zvi,zvf,za⟩
   rw [hzz]at hld hz hX hE hT
   refine VOK_ltN hld rfl (okX _) (VOK_callF hz (okMX mem now left (.mk zo zk znm zfd zad zn zvk zvi zvf za)) ⟨?_,?_,trivial⟩)
   ·rintro ws (⟨a,ha,_,rfl⟩|⟨_,_,h0,_⟩)
    ·refine VOK_callF (p82 ⟨q1,q2⟩ a (hT a ha).1.1.kd) (by show okL (.int .i64 kd::encV a)=true;rw [okL_cons];exact okV a) ⟨?_,?_,trivial⟩
     ·rintro ws (⟨w,hw,_,rfl⟩|⟨_,_,h0,_⟩)
      ·exact finV (v:=w) rfl ((hX a ha).trans hw)
      ·cases h0
     ·rintro ws (⟨_,_,h0,_⟩|⟨e,he,_,rfl⟩)
      ·cases h0
      ·exact finR rfl ((hX a ha).trans he)
    ·cases h0
   ·rintro ws (⟨_,_,h0,_⟩|⟨e,he,_,rfl⟩)
    ·cases h0
    ·exact finR rfl (hE e he)
  have n17:=h
  refine VOK_lt (run_len38 args) rfl ?_
  refine VOK_loop (ι:=List FV×Nat) (λs=>[.int .i64 (s.2:Int),encVs s.1]) (λs=>s.1.length=s.2/\s.2<=args.length/\Rest mem args s.1 s.2) (λs=>args.length-s.2) ([],0) ⟨rfl,Nat.zero_le _,rest_0 _ _⟩ rfl (λs _=>by simp only [okL,okC,okVs]) (λs s' _ _ h=>by simp at h;omega) (λs hs=>?_)
  obtain ⟨acc,i⟩:=s
  obtain ⟨h1,h2,h3⟩:=hs
  simp only at h1 h2 h3⊢
  (refine it_c rfl rfl (λh=>?_) (λh=>?_)<;>simp only [Cmp,Decidable.not_not,Int.not_lt,Int.not_le]at h<;>try (exfalso;first|exact h trivial|omega))
  ·have hi:i<args.length:=by omega
   have hld:=run_ld40 args hi
   have hz:=ih args[i] (hx.2.2.2.2.2 _ (List.getElem_mem hi))
   have hrx:=λv=>rest_ok (v:=v) h3 hi
   have hre:=λe=>rest_er (e:=e) h3 hi
   rcases hzz:args[i]with ⟨zo,zk,znm,zfd,zad,zn,zvk,zvi,zvf,za⟩
   rw [hzz]at hld hz hrx hre
   refine VOK_lt (run_ia38 args hi) (encL_ok okX _) (VOK_ltN hld rfl (okX _) (VOK_callF hz (okMX mem now left (.mk zo zk znm zfd zad zn zvk zvi zvf za)) ⟨?_,?_,trivial⟩))
   ·rintro ws (⟨a,ha,_,rfl⟩|⟨_,_,h0,_⟩)
    ·exact VOK_lt (run_app3 acc a (by omega)) (okVs _) (VOK_lt (add_c (by omega) (by omega)) rfl (VOK_again rfl ⟨(acc++[a],i+1),⟨by simp;omega,hi,hrx a ha⟩,rfl,by simp only;omega⟩))
    ·cases h0
   ·rintro ws (⟨_,_,h0,_⟩|⟨e,he,_,rfl⟩)
    ·cases h0
    ·exact finR rfl (evalX_argE n1 n2 (hre e he))
  have hi:i=args.length:=by omega
  subst hi
  have hL:=rest_end h3
  have hV:=evalL_TV (evalX_TV hm d) args hx.2.2.2.2.2 acc hL
  have hX:=evalX_args (mem:=mem) (kd:=kd) (nm:=nm) (fd:=fd) (ad:=ad) (n:=n) (vk:=vk) (vi:=vi) (vf:=vf) n1 n2 hL
  obtain ⟨a,b,ea,eb,ta,tb,_,_,ko,_⟩:=madeX_TV hm hx n1 n2 hV
  obtain ⟨oK,bk,ok,hvs⟩:=ko n3 n17
  rw [ea,eb,madeX,if_neg n3,if_neg n17]at hX
  have hX:evalX mem (.mk op kd nm fd ad n vk vi vf args)=opX op a b:=hX
  have hc:CF Tryz.prog 83 ft83 [.int .i64 op,encVs acc] (RV (opX op a b)):=by
   rcases hvs with ⟨rfl,hu⟩|⟨rfl,hu⟩
   ·cases eb
    exact p83 oK ta ⟨by simp,rfl⟩ ⟨by simp,rfl⟩ (by simp)
   ·exact p83 oK ta ⟨by simp,rfl⟩ ⟨by simp,rfl⟩ (by simp)
  refine VOK_callF hc (by show okL [.int .i64 op,encVs acc]=true;simp only [okL,okC,okVs]) ⟨?_,?_,trivial⟩
  ·rintro ws (⟨w,hw,_,rfl⟩|⟨_,_,h0,_⟩)
   ·exact finV (v:=w) rfl (hX.trans hw)
   ·cases h0
  ·rintro ws (⟨_,_,h0,_⟩|⟨e,he,_,rfl⟩)
   ·cases h0
   ·exact finR rfl (hX.trans he)
end Go.Proofs.YtjconanknjgpnaaGreat.vars
set_option maxRecDepth 100000
set_option linter.unusedVariables false
set_option linter.unusedSimpArgs false
namespace Go.Proofs.YtjconanknjgpnaaGreat.vars
open Go Go.Sx
def c72:VC:=⟨⟨[],[]⟩,[(55,[none])],[],1,true,[(39,ft39)]⟩
def t72:VT:=
 (.callF 39 ft39 [64,65,J 13] 67
 (.cons 2
 (.lt (.iaddr 172) [.vsl 13 1 [J 0,J 1,J 2,J 3,.int .i64 (-1),J 7,J 32767,.int .i64 (-32768),J 2147483647,.int .i64 (-2147483648),J 100,J 9223372036854775807,.int .i64 (-9223372036854775808)],70] 72 none
 (.lt (.load 2) [72] 73 none
 (.call 55 [66,73] 74 [none]
 (.done (.tup [J 0,74,71])))))
 .nil))
def c71:VC:=⟨⟨[],[]⟩,[],[],1,true,[(39,ft39)]⟩
def t71:VT:=
 (.callF 39 ft39 [64,65,J 15] 66
 (.cons 2
 (.lt (.iaddr 143) [.vsl 15 1 [.flt .f64 0,.flt .f64 9223372036854775808,.flt .f64 4607182418800017408,.flt .f64 13830554455654793216,.flt .f64 4602678819172646912,.flt .f64 4612811918334230528,.flt .f64 13838998704956112896,.flt .f64 9094988921128908188,.flt .f64 2024,.flt .f64 9218868437227405312,.flt .f64 18442240474082181120,.nan .f64,.flt .f64 4674736413210574848,.flt .f64 4891288408196988160,.flt .f64 4636737291354636288],69] 71 none
 (.lt (.load 44) [71] 72 none
 (.done (.tup [J 0,72,70]))))
 .nil))
def c40:VC:=⟨⟨[],[]⟩,[],[],1,true,[(39,ft39),(71,ft71),(72,ft72)]⟩
def t40:VT:=
 (.lt (.bin .eql 3 false true) [66,J 1] 67 none
 (.ite 67
 (.callF 39 ft39 [64,65,J 2] 68
 (.cons 2
 (.done (.tup [J 0,J 1,71,.flt .f64 0,72]))
 .nil))
 (.lt (.bin .eql 3 false true) [66,J 5] 68 none
 (.ite 68
 (.callF 71 ft71 [64,65] 69
 (.cons 2
 (.done (.tup [J 0,J 5,J 0,71,72]))
 .nil))
 (.callF 72 ft72 [64,65,66] 69
 (.cons 2
 (.done (.tup [J 0,66,72,.flt .f64 0,73]))
 .nil))))))
def c15:VC:=⟨⟨[],[]⟩,[],[(0,[⟨[(4,.slx 0 0 0),(3,.slx 134 3 2),(0,.ptr 0 0)],[(0,[64,.slx 1 0 0])],135,3,[⟨134,3,2,3,none⟩],[],[]⟩])],1,true,[(39,ft39),(40,ft40)]⟩
def t15:VT:=
 (.loop 66 0 [J 0,65,.vsl 21 3 [J 2,J 0,.flt .f64 0,J 1,J 0,.flt .f64 0,J 2,J 0,.flt .f64 0,J 1,J 0,.flt .f64 0,J 2,J 5,.flt .f64 0,J 3,J 0,.flt .f64 0,J 5,J 0,.flt .f64 0,J 4,J 0,.flt .f64 0,J 2,J 0,.flt .f64 0,J 2,J 0,.flt .f64 0,J 2,J 0,.flt .f64 0,J 2,J 0,.flt .f64 0,J 1,J 0,.flt .f64 0,J 4,J 0,.flt .f64 0,J 1,J 0,.flt .f64 0,J 4,J 0,.flt .f64 0,J 1,J 0,.flt .f64 0,J 2,J 0,.flt .f64 0,J 1,J 0,.flt .f64 0,J 1,J 0,.flt .f64 0,J 1,J 0,.flt .f64 0]]
 (.cons 3
 (.lt (.len 31) [68] 69 none
 (.lt (.bin .lss 3 false false) [66,69] 70 none
 (.ite 70
 (.callF 39 ft39 [64,67,J 3] 71
 (.cons 2
 (.lt (.bin .gtr 3 false true) [74,J 0] 76 none
 (.ite 76
 (.lt .inb [68,66] 77 none
 (.lt (.ldx 3 3 0) [68,77] 78 none
 (.callF 40 ft40 [64,75,78] 79
 (.cons 4
 (.lt .inb [68,66] 86 none
 (.lt (.stx 46 3 0) [68,86,.agg [82,83,84]] 87 none
 (.lt (.bin .add 3 false true) [66,J 1] 88 none
 (.chk (.same 68 87)
 (.again 0 0 [88,85,87])))))
 .nil))))
 (.lt (.bin .add 3 false true) [66,J 1] 77 none
 (.again 0 0 [77,75,68]))))
 .nil))
 (.done (.tup [J 0,68,67])))))
 .nil))
def c22:VC:=⟨⟨[],[]⟩,[],[],1,true,[(49,ft49)]⟩
def t22:VT:=
 (.callF 49 ft49 [64,J 0,J 0,65,66,67,68,69,70,71,72,73,74] 75
 (.cons 3
 (.done (.tup [J 0,88,89,90,J 0]))
 (.cons 1
 (.done (.tup [J 0,J 0,J 0,.flt .f64 0,88]))
 .nil)))
def encI (n:Int):List AV:=[.int .i64 n]
def encF (o:Option Nat):List AV:=[fv o]
def W13:List Int:=[0,1,2,3,-1,7,32767,-32768,2147483647,-2147483648,100,9223372036854775807,-9223372036854775808]
def R15:List (Option Nat):=[some 0,some 9223372036854775808,some 4607182418800017408,some 13830554455654793216,some 4602678819172646912,some 4612811918334230528,some 13838998704956112896,some 9094988921128908188,some 2024,some 9218868437227405312,some 18442240474082181120,none,some 4674736413210574848,some 4891288408196988160,some 4636737291354636288]
theorem w13_i64:∀x∈W13,-9223372036854775808<=x/\x<=9223372036854775807:=by decide
theorem p72 {l:List UInt8} {a:AV} {n:Nat} {k:Int} (hp:Pk l a) (hn:n<=l.length) (hk:2<=k/\k<=4):CF Tryz.prog 72 ft72 [a,.int .i64 (n:Int),.int .i64 k] (λ_ ws=>∃(r:Int) (n':Nat),ws=[.int .i64 r,.int .i64 (n':Int)]/\InK k r/\n'<=l.length):=by
 have hA:=hp.1.ok okC8
 refine cf_tree (c:=c72) (n:=300) (t:=t72) mo ov rfl (λY _=>known0 _) (by kernel_rfl) λY hf hg=>?_
 unfold t72
 refine callF' (p39 (m:=13) hp hn (by decide) (by decide)) rfl (by simp only [okL,okC,hA]) ⟨?_,trivial⟩
 rintro ws ⟨v,n',rfl,hv,hn'⟩
 have hv':v<W13.length:=hv
 have hi:=w13_i64 _ (List.getElem_mem hv')
 refine VOK_lt (run_iaddr_sl (enc:=encI) (w:=1) (e:=2) (ti:=(Tryz.prog.info? 2).get!) (l:=W13) Tryz.underlying172 (by kernel_rfl) (by kernel_rfl) (λ_=>rfl) hv' .i64) (encL_ok (λ_=>rfl) _) ?_
 rw [List.drop_eq_getElem_cons hv']
 exact VOK_lt (run_load_one Tryz.underlying2 rfl _ _) rfl (VOK_call (p55 (by omega) _) rfl rfl (VOK_fin rfl ⟨_,n',rfl,wrapK_in (by omega) (by omega) hi.1 hi.2,hn'⟩))
theorem okF1I (o:Option Nat) (n:Int):okL [fv o,.int .i64 n]=true:=by cases o<;>rfl
theorem p71 {l:List UInt8} {a:AV} {n:Nat} (hp:Pk l a) (hn:n<=l.length):CF Tryz.prog 71 ft71 [a,.int .i64 (n:Int)] (λ_ ws=>∃(o:Option Nat) (n':Nat),ws=[fv o,.int .i64 (n':Int)]/\n'<=l.length):=by
 have hA:=hp.1.ok okC8
 refine cf_tree (c:=c71) (n:=300) (t:=t71) mo ov rfl (λY _=>known0 _) (by kernel_rfl) λY hf hg=>?_
 unfold t71
 refine callF' (p39 (m:=15) hp hn (by decide) (by decide)) rfl (by simp only [okL,okC,hA]) ⟨?_,trivial⟩
 rintro ws ⟨v,n',rfl,hv,hn'⟩
 have hv':v<R15.length:=hv
 refine VOK_lt (run_iaddr_sl (enc:=encF) (w:=1) (e:=44) (ti:=(Tryz.prog.info? 44).get!) (l:=R15) Tryz.underlying143 (by kernel_rfl) (by kernel_rfl) (λ_=>rfl) hv' .i64) (encL_ok (λo=>by simp only [encF,okL,fv_ok]) _) ?_
 rw [List.drop_eq_getElem_cons hv']
 exact VOK_lt (run_load_one Tryz.underlying44 rfl _ _) (fv_ok _) (VOK_fin (okF1I _ _) ⟨_,n',rfl,hn'⟩)
def RVal (l:List UInt8) (k:Int):Nat->List AV->Prop:=λ_ ws=>∃(v:FV) (n':Nat),ws=encV v++[.int .i64 (n':Int)]/\TV v/\v.k=k/\n'<=l.length
theorem p40 {l:List UInt8} {a:AV} {n:Nat} {k:Int} (hp:Pk l a) (hn:n<=l.length) (hk:1<=k/\k<=5):CF Tryz.prog 40 ft40 [a,.int .i64 (n:Int),.int .i64 k] (RVal l k):=by
 have hA:=hp.1.ok okC8
 refine cf_tree (c:=c40) (n:=300) (t:=t40) mo ov rfl (λY _=>known0 _) (by kernel_rfl) λY hf hg=>?_
 unfold t40
 (refine it_c rfl rfl (λh=>?_) (λh=>?_)<;>simp only [Cmp,Decidable.not_not,Int.not_lt,Int.not_le]at h<;>try (exfalso;first|exact h trivial|omega))
 ·subst h
  refine callF' (p39 (m:=2) hp hn (by decide) (by decide)) rfl (by simp only [okL,okC,hA]) ⟨?_,trivial⟩
  rintro ws ⟨v,n',rfl,hv,hn'⟩
  exact VOK_fin rfl ⟨⟨1,v,some 0⟩,n',rfl,⟨.inl ⟨rfl,by show (0:Int)<=(v:Int);omega,by show (v:Int)<=1;omega⟩,λ_=>rfl⟩,rfl,hn'⟩
 (refine it_c rfl rfl (λh=>?_) (λh=>?_)<;>simp only [Cmp,Decidable.not_not,Int.not_lt,Int.not_le]at h<;>try (exfalso;first|exact h trivial|omega))
 ·subst h
  refine callF' (p71 hp hn) rfl (by simp only [okL,okC,hA]) ⟨?_,trivial⟩
  rintro ws ⟨o,n',rfl,hn'⟩
  exact VOK_fin (okVI ⟨5,0,o⟩ _) ⟨⟨5,0,o⟩,n',rfl,⟨.inr (.inr (.inr (.inr ⟨rfl,rfl⟩))),λh=>absurd rfl h⟩,rfl,hn'⟩
 refine callF' (p72 hp hn (by omega)) rfl (by simp only [okL,okC,hA]) ⟨?_,trivial⟩
 rintro ws ⟨r,n',rfl,hr,hn'⟩
 exact VOK_fin rfl ⟨⟨k,r,some 0⟩,n',rfl,⟨hr,λ_=>rfl⟩,rfl,hn'⟩
def mem0:List FV:=[⟨2,0,some 0⟩,⟨1,0,some 0⟩,⟨2,0,some 0⟩,⟨1,0,some 0⟩,⟨2,5,some 0⟩,⟨3,0,some 0⟩,⟨5,0,some 0⟩,⟨4,0,some 0⟩,⟨2,0,some 0⟩,⟨2,0,some 0⟩,⟨2,0,some 0⟩,⟨2,0,some 0⟩,⟨1,0,some 0⟩,⟨4,0,some 0⟩,⟨1,0,some 0⟩,⟨4,0,some 0⟩,⟨1,0,some 0⟩,⟨2,0,some 0⟩,⟨1,0,some 0⟩,⟨1,0,some 0⟩,⟨1,0,some 0⟩]
theorem mem0_ok:MemOk mem0:=by
 refine ⟨rfl,λv hv=>?_⟩
 have:∀v∈mem0,(v.k=1\/v.k=2\/v.k=3\/v.k=4\/v.k=5)/\(v.i=0\/(v.i=5/\v.k=2))/\v.f=some 0:=by
  intro v hv
  simp only [mem0,List.mem_cons,List.not_mem_nil,or_false]at hv
  rcases hv with rfl|rfl|rfl|rfl|rfl|rfl|rfl|rfl|rfl|rfl|rfl|rfl|rfl|rfl|rfl|rfl|rfl|rfl|rfl|rfl|rfl<;>simp
 obtain ⟨h1,h2,h3⟩:=this v hv
 refine ⟨?_,λ_=>h3⟩
 unfold InK
 omega
theorem MemOk.set {mem:List FV} (h:MemOk mem) {i:Nat} (hi:i<mem.length) {v:FV} (hv:TV v) (hk:v.k=mem[i].k):MemOk (mem.set i v):=by
 refine ⟨?_,λu hu=>?_⟩
 ·rw [←h.1,List.map_set,hk]
  apply List.ext_getElem (by simp)
  intro j h1 h2
  rw [List.getElem_set]
  split
  ·rename_i e;subst e;simp
  ·rfl
 ·rcases List.mem_or_eq_of_mem_set hu with hu|rfl
  ·exact h.2 u hu
  ·exact hv
def RMem (l:List UInt8):Nat->List AV->Prop:=λ_ ws=>∃(mem:List FV) (n':Nat),ws=[encVs mem,.int .i64 (n':Int)]/\MemOk mem/\n'<=l.length
theorem run_ldxK (l:List FV) {i:Nat} (hi:i<l.length):(XOp.ldx 3 3 0).run Tryz.prog [encVs l,.int .i64 (i:Int)]=some (.int .i64 l[i].k):=
 run_ldx1 (enc:=encV) Tryz.underlying3 rfl lenV hi (p:=[]) (r:=[.int .i64 l[i].i,fv l[i].f]) rfl rfl .i64
theorem run_stxV (l:List FV) {i:Nat} (hi:i<l.length) (y:FV):(XOp.stx 46 3 0).run Tryz.prog [encVs l,.int .i64 (i:Int),.agg (encV y)]=some (encVs (l.set i y)):=
 run_stx (ti:=(Tryz.prog.info? 46).get!) lenV hi (p:=[]) (q:=encV l[i]) (r:=[]) (xs:=encV y) rfl (.inl rfl) (by kernel_rfl) (by rw [lenV];kernel_rfl) (allOne_ok (okV _)) (by simp) rfl (by rw [lenV,lenV]) (by simp) .i64
theorem same_set (l:List FV) (i:Nat) (v:FV):(some (encVs l)=some .nsl/\some (encVs (l.set i v))=some .nsl)\/∃n z cs ds,some (encVs l)=some (.vsl n z cs)/\some (encVs (l.set i v))=some (.vsl n z ds):=by
 cases l with
 |nil=>exact .inl ⟨rfl,rfl⟩
 |cons x r=>
  cases i with
  |zero=>exact .inr ⟨_,_,_,_,rfl,rfl⟩
  |succ i=>
   refine .inr ⟨r.length+1,3,encL encV (x::r),encL encV (x::r.set i v),rfl,?_⟩
   show some (AV.vsl ((r.set i v).length+1) 3 _)=_
   rw [List.length_set]
theorem p15 {l:List UInt8} {a:AV} {n:Nat} (hp:Pk l a) (hn:n<=l.length):CF Tryz.prog 15 ft15 [a,.int .i64 (n:Int)] (RMem l):=by
 have hA:=hp.1.ok okC8
 refine cf_tree (c:=c15) (n:=300) (t:=t15) mo ov rfl (λY _=>known0 _) (by kernel_rfl) λY hf hg=>?_
 unfold t15
 refine VOK_loop (ι:=Nat×Nat×List FV) (λs=>[.int .i64 (s.1:Int),.int .i64 (s.2.1:Int),encVs s.2.2]) (λs=>s.1<=21/\s.2.1<=l.length/\MemOk s.2.2) (λs=>21-s.1) (0,n,mem0) ⟨Nat.zero_le _,hn,mem0_ok⟩ rfl (λs _=>by simp only [okL,okC,okVs]) (λs s' _ _ h=>by simp at h;omega) (λs hs=>?_)
 obtain ⟨i,m,mem⟩:=s
 obtain ⟨h1,h2,h3⟩:=hs
 simp only at h1 h2 h3⊢
 have hlen:=h3.len
 refine VOK_lt (run_len31 mem) rfl ?_
 (refine it_c rfl rfl (λh=>?_) (λh=>?_)<;>simp only [Cmp,Decidable.not_not,Int.not_lt,Int.not_le]at h<;>try (exfalso;first|exact h trivial|omega))
 ·have hi:i<mem.length:=by omega
  refine callF' (p39 (n:=m) (m:=3) hp h2 (by decide) (by decide)) rfl (by simp only [okL,okC,hA]) ⟨?_,trivial⟩
  rintro ws ⟨v,n',rfl,hv,hn'⟩
  (refine it_c rfl rfl (λh=>?_) (λh=>?_)<;>simp only [Cmp,Decidable.not_not,Int.not_lt,Int.not_le]at h<;>try (exfalso;first|exact h trivial|omega))
  ·have ⟨q1,q2⟩:=(h3.2 mem[i] (List.getElem_mem hi)).1.kd
   refine VOK_lt (run_inbV mem hi) rfl (VOK_lt (run_ldxK mem hi) rfl ?_)
   refine callF' (p40 hp hn' ⟨q1,q2⟩) rfl (by simp only [okL,okC,hA]) ⟨?_,trivial⟩
   rintro ws ⟨w,n2,rfl,tw,wk,hn2⟩
   refine VOK_lt (run_inbV mem hi) rfl (VOK_lt (run_stxV mem hi w) (okVs _) (VOK_lt (add_c (by omega) (by omega)) rfl ?_))
   refine VOK_chk (same_set mem i w) (VOK_again rfl ⟨(i+1,n2,mem.set i w),⟨by omega,hn2,h3.set hi tw wk⟩,rfl,by simp only;omega⟩)
  ·exact VOK_lt (add_c (by omega) (by omega)) rfl (VOK_again rfl ⟨(i+1,n',mem),⟨by omega,hn',h3⟩,rfl,by simp only;omega⟩)
 ·exact VOK_fin (by show okL [encVs mem,.int .i64 (m:Int)]=true;simp only [okL,okC,okVs]) ⟨mem,m,rfl,h3,h2⟩
def REv (r:Except Int FV):Nat->List AV->Prop:=λ_ ws=>ws=encV (outV r)++[.int .i64 (outE r)]
theorem p22 {mem:List FV} (hm:MemOk mem) {d:Nat} {x:GX} (hx:TX d x):CF Tryz.prog 22 ft22 (encVs mem::encX x) (REv (evalX mem x)):=by
 refine cf_tree (c:=c22) (n:=300) (t:=t22) mo ov (by rw [List.length_cons,lenX];rfl) (λY _=>known0 _) (by kernel_rfl) λY hf hg=>?_
 unfold t22
 have hz:=p49 hm 0 0 d x hx
 rcases hzz:x with ⟨zo,zk,znm,zfd,zad,zn,zvk,zvi,zvf,za⟩
 rw [hzz]at hz
 refine VOK_callF hz (okMX mem 0 0 (.mk zo zk znm zfd zad zn zvk zvi zvf za)) ⟨?_,?_,trivial⟩
 ·rintro ws (⟨v,hv,_,rfl⟩|⟨_,_,h0,_⟩)
  ·refine VOK_fin (okVI v 0) ?_
   show _=_
   rw [hv]
   rfl
  ·cases h0
 ·rintro ws (⟨_,_,h0,_⟩|⟨e,he,_,rfl⟩)
  ·cases h0
  ·refine VOK_fin rfl ?_
   show _=_
   rw [he]
   rfl
end Go.Proofs.YtjconanknjgpnaaGreat.vars
set_option maxRecDepth 100000
set_option linter.unusedVariables false
set_option linter.unusedSimpArgs false
namespace Go.Proofs.YtjconanknjgpnaaGreat.vars
open Go Go.Sx
def c54:VC:=⟨⟨[],[]⟩,[],[],0,true,[]⟩
def t54:VT:=
 (.lt (.bin .neq 44 false false) [64,64] 65 none
 (.ite 65
 (.done (.int .u64 9221120237041090561))
 (.lt (.ext 88) [64] 66 none
 (.done (66)))))
def c52:VC:=⟨⟨[],[]⟩,[(54,[none])],[],0,true,[]⟩
def t52:VT:=
 (.call 54 [64] 66 [none]
 (.call 54 [65] 67 [none]
 (.lt (.bin .eql 101 false false) [66,67] 68 none
 (.done (68)))))
def c24:VC:=⟨⟨[],[]⟩,[(52,[none])],[],0,true,[]⟩
def t24:VT:=
 (.lt (.bin .eql 3 false false) [64,67] 70 none
 (.ite 70
 (.lt (.bin .eql 2 false false) [65,68] 71 none
 (.ite 71
 (.call 52 [66,69] 72 [none]
 (.done (72)))
 (.done (.bool false))))
 (.done (.bool false))))
def c25:VC:=⟨⟨[],[]⟩,[(53,[none]),(54,[none]),(55,[none])],[],0,true,[]⟩
def t25:VT:=
 (.lt (.bin .eql 3 false true) [64,J 5] 67 none
 (.ite 67
 (.lt (.bin .eql 2 false true) [65,J 0] 68 none
 (.done (68)))
 (.call 53 [64] 68 [none]
 (.lt (.bin .eql 3 false true) [68,J 1] 69 none
 (.ite 69
 (.call 54 [66] 70 [none]
 (.lt (.bin .eql 101 false true) [70,.int .u64 0] 71 none
 (.ite 71
 (.call 55 [64,65] 72 [none]
 (.lt (.bin .eql 2 false false) [72,65] 73 none
 (.done (73))))
 (.done (.bool false)))))
 (.done (.bool false)))))))
def bitsF:Option Nat->Int
 |none=>9221120237041090561
 |some n=>if nanB n=true then 9221120237041090561 else (n:Int)
theorem ext88 (n:Nat):(XOp.ext 88).run Tryz.prog [.flt .f64 n]=some (.int .u64 (n:Int)):=by kernel_rfl
theorem p54 (o:Option Nat):Pure Tryz.prog 54 [fv o] (.int .u64 (bitsF o)):=by
 refine pure_shape (sh:=[none]) (ls:=[fv o]) (c:=c54) (n:=300) (t:=t54) mo ov rfl (okF1 o) rfl (λY _=>known0 _) rfl (by kernel_rfl) λY hf hg=>?_
 unfold t54
 refine VOK_lt (run_fneq ..) rfl (VOK_ite rfl (λh=>?_) (λh=>?_))
 ·rw [eqF_nan]at h
  refine VOK_done ?_
  cases o with
  |none=>rfl
  |some n=>
   show AV.int _ _=AV.int _ (if nanB n=true then 9221120237041090561 else (n:Int))
   exact congrArg (AV.int .u64) (if_pos h).symm
 ·rw [eqF_nan]at h
  cases o with
  |none=>cases h
  |some n=>
   refine VOK_lt (ext88 n) rfl (VOK_done ?_)
   show AV.int _ _=AV.int _ (if nanB n=true then 9221120237041090561 else (n:Int))
   rw [if_neg (by rw [show nanB n=false from h];exact Bool.false_ne_true)]
theorem p52 (o:Option Nat):Pure Tryz.prog 52 [fv o,fv o] (.bool true):=by
 refine pure_shape (sh:=[none,none]) (ls:=[fv o,fv o]) (c:=c52) (n:=300) (t:=t52) mo ov rfl (by simp only [okL,fv_ok]) rfl (λY _=>known0 _) rfl (by kernel_rfl) λY hf hg=>?_
 unfold t52
 exact VOK_call (p54 o) rfl rfl (VOK_call (p54 o) rfl rfl (VOK_lt (run_eql ..) rfl (VOK_done (congrArg AV.bool (decide_eq_true rfl)))))
theorem p24 (v:FV):Pure Tryz.prog 24 [.agg (encV v),.agg (encV v)] (.bool true):=by
 refine pure_shape (sh:=[some 3,some 3]) (ls:=encV v++encV v) (c:=c24) (n:=300) (t:=t24) mo ov rfl (encL_ok.okL_join (okV v) (okV v)) rfl (λY _=>known0 _) rfl (by kernel_rfl) λY hf hg=>?_
 unfold t24
 (refine it_c rfl rfl (λh=>?_) (λh=>?_)<;>simp only [Cmp,Decidable.not_not,Int.not_lt,Int.not_le]at h<;>try (exfalso;first|exact h trivial|omega))
 (refine it_c rfl rfl (λh=>?_) (λh=>?_)<;>simp only [Cmp,Decidable.not_not,Int.not_lt,Int.not_le]at h<;>try (exfalso;first|exact h trivial|omega))
 exact VOK_call (p52 v.f) rfl rfl (VOK_done rfl)
theorem p53 {k:Int} (h:1<=k/\k<=5):Pure Tryz.prog 53 [.int .i64 k] (.int .i64 1):=by
 rcases (by omega:k=1\/k=2\/k=3\/k=4\/k=5)with rfl|rfl|rfl|rfl|rfl
 ·exact k46_1
 ·exact k46_2
 ·exact k46_3
 ·exact k46_4
 ·exact k46_5
theorem p25 {v:FV} (hT:TV v):Pure Tryz.prog 25 [.agg (encV v)] (.bool true):=by
 have hk:=hT.1.kd
 refine pure_shape (sh:=[some 3]) (ls:=encV v) (c:=c25) (n:=300) (t:=t25) mo ov rfl (okV v) rfl (λY _=>known0 _) rfl (by kernel_rfl) λY hf hg=>?_
 unfold t25
 (refine it_c rfl rfl (λh=>?_) (λh=>?_)<;>simp only [Cmp,Decidable.not_not,Int.not_lt,Int.not_le]at h<;>try (exfalso;first|exact h trivial|omega))
 ·have h0:v.i=0:=by rcases hT.1 with q|q|q|q|q<;>omega
  rw [show (encV v)=[.int .i64 v.k,.int .i64 v.i,fv v.f] from rfl,h0]
  exact VOK_lt rfl rfl (VOK_done rfl)
 have h5:=h
 refine VOK_call (p53 hk) rfl rfl (VOK_lt rfl rfl (VOK_ite (t:=true) rfl (λ_=>?_) (λh=>by cases h)))
 have hf:v.f=some 0:=hT.2 h5
 rw [show (encV v)=[.int .i64 v.k,.int .i64 v.i,fv v.f] from rfl,hf]
 refine VOK_call (p54 (some 0)) rfl rfl (VOK_lt rfl rfl (VOK_ite (t:=true) rfl (λ_=>?_) (λh=>by cases h)))
 have hw:=p55 hk v.i
 rw [wrapK_id hT.1 h5]at hw
 exact VOK_call hw rfl rfl (VOK_lt (run_eql ..) rfl (VOK_done (congrArg AV.bool (decide_eq_true rfl))))
end Go.Proofs.YtjconanknjgpnaaGreat.vars
set_option maxRecDepth 100000
namespace Go.Proofs.YtjconanknjgpnaaGreat.vars
open Go Go.Sx
namespace Beg
abbrev G (l:List (FuncId×List AV×AV)):Gl:=glT gl0 nr0 l
theorem o0: @OvOk (G []) Tryz.prog:=ov_nil gl0 nr0 Tryz.prog
def z5:AV:=.int .i64 1
def z9:AV:=.int .i64 2
def z6:AV:=.int .i64 0
def z7:AV:=.flt .f64 0
def z8:AV:=.int .i64 5
def z0:AV:=.vsl 7 10 [.str [97],z5,z9,z6,z9,z6,z7,z6,z6,z7,.str [98],z5,z5,z6,z5,z6,z7,z6,z6,z7,.str [111],z9,z9,z6,z9,z5,z7,z9,.int .i64 9,z7,.str [110],.int .i64 3,z9,z6,z9,z6,z7,z6,z6,z7,.str [120],.int .i64 3,z9,z6,z9,z6,z7,z6,z6,z7,.str [114],.int .i64 3,z8,z6,z8,z6,z7,z6,z6,z7,.str [107],.int .i64 3,z9,.int .i64 3,z9,z6,z7,z6,z6,z7]
def z4:AV:=.str []
def z1:AV:=.vsl 4 27 [z5,z9,z6,.str [110],z4,z6,z6,z6,z6,z7,.nsl,.int .i64 4,z6,z4,z4,z6,z6,z6,z6,z7,.vsl 2 10 [z9,z6,.str [110],z4,z6,z6,z6,z6,z7,.nsl,z5,z6,z4,z4,z6,z6,.int .i64 3,z5,z7,.nsl],.nsl,.nsl,z4,z6,z6,.nsl,z5,z9,z6,.str [111],z4,z6,z6,z6,z6,z7,.nsl,.int .i64 4,z6,z4,z4,z6,z6,z6,z6,z7,.vsl 2 10 [z9,z6,.str [120],z4,z6,z6,z6,z6,z7,.nsl,z9,z6,.str [97],z4,z6,z6,z6,z6,z7,.nsl],.nsl,.nsl,z4,z6,z6,.nsl,z9,z6,z6,z4,z4,z6,z6,z6,z6,z7,.nsl,z9,z6,.str [98],z4,z6,z6,z6,z6,z7,.nsl,.vsl 1 27 [z5,.int .i64 3,z6,.str [107],z4,z6,z6,z6,z6,z7,.vsl 1 10 [z9,z6,.str [120],z4,z6,z6,z6,z6,z7,.nsl],z9,z6,.str [97],z4,z6,z6,z6,z6,z7,.nsl,.nsl,.nsl,z4,z6,z6,.nsl],.nsl,z4,z6,z6,.nsl,z5,z9,z6,.str [114],z4,z6,z6,z6,z6,z7,.nsl,.int .i64 4,z6,z4,z4,z6,z6,z6,z6,z7,.vsl 2 10 [z9,z6,.str [114],z4,z6,z6,z6,z6,z7,.nsl,z5,z6,z4,z4,z6,z6,z8,z6,.flt .f64 4602678819172646912,.nsl],.nsl,.nsl,z4,z6,z6,.nsl]
def z2:AV:=.vsl 4 27 [z5,z9,z9,.str [110],z4,.int .i64 3,z6,z6,z6,z7,.nsl,.int .i64 4,z9,z4,z4,z6,z6,z6,z6,z7,.vsl 2 10 [z9,z9,.str [110],z4,.int .i64 3,z6,z6,z6,z7,.nsl,z5,z9,z4,z4,z6,z6,z9,z5,z7,.nsl],.nsl,.nsl,z4,z6,z6,.nsl,z5,z9,z9,.str [111],z4,z9,z6,z6,z6,z7,.nsl,.int .i64 4,z9,z4,z4,z6,z6,z6,z6,z7,.vsl 2 10 [z9,z9,.str [120],z4,.int .i64 4,z6,z6,z6,z7,.nsl,z9,z9,.str [97],z4,z6,z6,z6,z6,z7,.nsl],.nsl,.nsl,z4,z6,z6,.nsl,z9,z6,z6,z4,z4,z6,z6,z6,z6,z7,.nsl,z9,z5,.str [98],z4,z5,z6,z6,z6,z7,.nsl,.vsl 1 27 [z5,.int .i64 3,z9,.str [107],z4,.int .i64 6,.int .i64 3,z6,z6,z7,.vsl 1 10 [z9,z9,.str [120],z4,.int .i64 4,z6,z6,z6,z7,.nsl],z9,z9,.str [97],z4,z6,z6,z6,z6,z7,.nsl,.nsl,.nsl,z4,z6,z6,.nsl],.nsl,z4,z6,z6,.nsl,z5,z9,z8,.str [114],z4,z8,z6,z6,z6,z7,.nsl,.int .i64 4,z8,z4,z4,z6,z6,z6,z6,z7,.vsl 2 10 [z9,z8,.str [114],z4,z8,z6,z6,z6,z7,.nsl,z5,z8,z4,z4,z6,z6,z8,z6,.flt .f64 4602678819172646912,.nsl],.nsl,.nsl,z4,z6,z6,.nsl]
def z3:AV:=.str [105,110,32,97,32,58,32,105,110,116,59,32,105,110,32,98,32,58,32,98,111,111,108,59,32,111,117,116,32,111,32,58,32,105,110,116,32,58,61,32,49,44,32,57,59,32,118,97,114,32,110,32,58,32,105,110,116,59,32,118,97,114,32,120,32,58,32,105,110,116,59,32,118,97,114,32,114,32,58,32,114,101,97,108,59,32,118,97,114,32,107,32,58,32,105,110,116,91,51,93,59,32,110,32,58,61,32,110,32,43,32,49,59,32,111,32,58,61,32,120,32,43,32,97,59,32,105,102,32,98,32,116,104,101,110,32,107,91,120,93,32,58,61,32,97,59,32,101,110,100,32,114,32,58,61,32,114,32,43,32,48,46,53,59]
def a0:List AV:=[z3]
def v0:AV:=.tup [.vsl 71 5 [z5,.str [105,110],z6,z7,z6,z5,.str [97],z6,z7,.int .i64 3,z8,.str [58],z6,z7,z8,z5,.str [105,110,116],z6,z7,.int .i64 7,z8,.str [59],z6,z7,.int .i64 10,z5,.str [105,110],z6,z7,.int .i64 12,z5,.str [98],z6,z7,.int .i64 15,z8,.str [58],z6,z7,.int .i64 17,z5,.str [98,111,111,108],z6,z7,.int .i64 19,z8,.str [59],z6,z7,.int .i64 23,z5,.str [111,117,116],z6,z7,.int .i64 25,z5,.str [111],z6,z7,.int .i64 29,z8,.str [58],z6,z7,.int .i64 31,z5,.str [105,110,116],z6,z7,.int .i64 33,z8,.str [58,61],z6,z7,.int .i64 37,z9,z4,z5,z7,.int .i64 40,z8,.str [44],z6,z7,.int .i64 41,z9,z4,.int .i64 9,z7,.int .i64 43,z8,.str [59],z6,z7,.int .i64 44,z5,.str [118,97,114],z6,z7,.int .i64 46,z5,.str [110],z6,z7,.int .i64 50,z8,.str [58],z6,z7,.int .i64 52,z5,.str [105,110,116],z6,z7,.int .i64 54,z8,.str [59],z6,z7,.int .i64 57,z5,.str [118,97,114],z6,z7,.int .i64 59,z5,.str [120],z6,z7,.int .i64 63,z8,.str [58],z6,z7,.int .i64 65,z5,.str [105,110,116],z6,z7,.int .i64 67,z8,.str [59],z6,z7,.int .i64 70,z5,.str [118,97,114],z6,z7,.int .i64 72,z5,.str [114],z6,z7,.int .i64 76,z8,.str [58],z6,z7,.int .i64 78,z5,.str [114,101,97,108],z6,z7,.int .i64 80,z8,.str [59],z6,z7,.int .i64 84,z5,.str [118,97,114],z6,z7,.int .i64 86,z5,.str [107],z6,z7,.int .i64 90,z8,.str [58],z6,z7,.int .i64 92,z5,.str [105,110,116],z6,z7,.int .i64 94,z8,.str [91],z6,z7,.int .i64 97,z9,z4,.int .i64 3,z7,.int .i64 98,z8,.str [93],z6,z7,.int .i64 99,z8,.str [59],z6,z7,.int .i64 100,z5,.str [110],z6,z7,.int .i64 102,z8,.str [58,61],z6,z7,.int .i64 104,z5,.str [110],z6,z7,.int .i64 107,z8,.str [43],z6,z7,.int .i64 109,z9,z4,z5,z7,.int .i64 111,z8,.str [59],z6,z7,.int .i64 112,z5,.str [111],z6,z7,.int .i64 114,z8,.str [58,61],z6,z7,.int .i64 116,z5,.str [120],z6,z7,.int .i64 119,z8,.str [43],z6,z7,.int .i64 121,z5,.str [97],z6,z7,.int .i64 123,z8,.str [59],z6,z7,.int .i64 124,z5,.str [105,102],z6,z7,.int .i64 126,z5,.str [98],z6,z7,.int .i64 129,z5,.str [116,104,101,110],z6,z7,.int .i64 131,z5,.str [107],z6,z7,.int .i64 136,z8,.str [91],z6,z7,.int .i64 137,z5,.str [120],z6,z7,.int .i64 138,z8,.str [93],z6,z7,.int .i64 139,z8,.str [58,61],z6,z7,.int .i64 141,z5,.str [97],z6,z7,.int .i64 144,z8,.str [59],z6,z7,.int .i64 145,z5,.str [101,110,100],z6,z7,.int .i64 147,z5,.str [114],z6,z7,.int .i64 151,z8,.str [58,61],z6,z7,.int .i64 153,z5,.str [114],z6,z7,.int .i64 156,z8,.str [43],z6,z7,.int .i64 158,.int .i64 3,z4,z6,.flt .f64 4602678819172646912,.int .i64 160,z8,.str [59],z6,z7,.int .i64 163],z6,.bool true]
theorem e0: @memo (G []) Tryz.prog 3000 62 a0 v0=true:=by kernel_rfl
def l1:List (FuncId×List AV×AV):=(62,a0,v0)::[]
theorem o1: @OvOk (G l1) Tryz.prog:=ov_cons o0 (@memo_ok (G []) Tryz.prog mo o0 3000 62 a0 v0 e0)
def a1:List AV:=[.agg [z9,z6,.str [110],z4,z6,z6,z6,z6,z7,.nsl]]
def v1:AV:=z5
theorem e1: @memo (G l1) Tryz.prog 3000 111 a1 v1=true:=by kernel_rfl
def l2:List (FuncId×List AV×AV):=(111,a1,v1)::l1
theorem o2: @OvOk (G l2) Tryz.prog:=ov_cons o1 (@memo_ok (G l1) Tryz.prog mo o1 3000 111 a1 v1 e1)
def a2:List AV:=[.agg [z5,z6,z4,z4,z6,z6,.int .i64 3,z5,z7,.nsl]]
def v2:AV:=z5
theorem e2: @memo (G l2) Tryz.prog 3000 111 a2 v2=true:=by kernel_rfl
def l3:List (FuncId×List AV×AV):=(111,a2,v2)::l2
theorem o3: @OvOk (G l3) Tryz.prog:=ov_cons o2 (@memo_ok (G l2) Tryz.prog mo o2 3000 111 a2 v2 e2)
def a3:List AV:=[.nsl]
def v3:AV:=z6
theorem e3: @memo (G l3) Tryz.prog 3000 67 a3 v3=true:=by kernel_rfl
def l4:List (FuncId×List AV×AV):=(67,a3,v3)::l3
theorem o4: @OvOk (G l4) Tryz.prog:=ov_cons o3 (@memo_ok (G l3) Tryz.prog mo o3 3000 67 a3 v3 e3)
def a4:List AV:=[.agg [z9,z6,.str [111],z4,z6,z6,z6,z6,z7,.nsl]]
def v4:AV:=z5
theorem e4: @memo (G l4) Tryz.prog 3000 111 a4 v4=true:=by kernel_rfl
def l5:List (FuncId×List AV×AV):=(111,a4,v4)::l4
theorem o5: @OvOk (G l5) Tryz.prog:=ov_cons o4 (@memo_ok (G l4) Tryz.prog mo o4 3000 111 a4 v4 e4)
def a5:List AV:=[.agg [z9,z6,.str [120],z4,z6,z6,z6,z6,z7,.nsl]]
def v5:AV:=z5
theorem e5: @memo (G l5) Tryz.prog 3000 111 a5 v5=true:=by kernel_rfl
def l6:List (FuncId×List AV×AV):=(111,a5,v5)::l5
theorem o6: @OvOk (G l6) Tryz.prog:=ov_cons o5 (@memo_ok (G l5) Tryz.prog mo o5 3000 111 a5 v5 e5)
def a6:List AV:=[.agg [z9,z6,.str [97],z4,z6,z6,z6,z6,z7,.nsl]]
def v6:AV:=z5
theorem e6: @memo (G l6) Tryz.prog 3000 111 a6 v6=true:=by kernel_rfl
def l7:List (FuncId×List AV×AV):=(111,a6,v6)::l6
theorem o7: @OvOk (G l7) Tryz.prog:=ov_cons o6 (@memo_ok (G l6) Tryz.prog mo o6 3000 111 a6 v6 e6)
def a7:List AV:=[.agg [z6,z6,z4,z4,z6,z6,z6,z6,z7,.nsl]]
def v7:AV:=z6
theorem e7: @memo (G l7) Tryz.prog 3000 111 a7 v7=true:=by kernel_rfl
def l8:List (FuncId×List AV×AV):=(111,a7,v7)::l7
theorem o8: @OvOk (G l8) Tryz.prog:=ov_cons o7 (@memo_ok (G l7) Tryz.prog mo o7 3000 111 a7 v7 e7)
def a8:List AV:=[.agg [z9,z6,.str [98],z4,z6,z6,z6,z6,z7,.nsl]]
def v8:AV:=z5
theorem e8: @memo (G l8) Tryz.prog 3000 111 a8 v8=true:=by kernel_rfl
def l9:List (FuncId×List AV×AV):=(111,a8,v8)::l8
theorem o9: @OvOk (G l9) Tryz.prog:=ov_cons o8 (@memo_ok (G l8) Tryz.prog mo o8 3000 111 a8 v8 e8)
def a9:List AV:=[.agg [z9,z6,.str [114],z4,z6,z6,z6,z6,z7,.nsl]]
def v9:AV:=z5
theorem e9: @memo (G l9) Tryz.prog 3000 111 a9 v9=true:=by kernel_rfl
def l10:List (FuncId×List AV×AV):=(111,a9,v9)::l9
theorem o10: @OvOk (G l10) Tryz.prog:=ov_cons o9 (@memo_ok (G l9) Tryz.prog mo o9 3000 111 a9 v9 e9)
def a10:List AV:=[.agg [z5,z6,z4,z4,z6,z6,z8,z6,.flt .f64 4602678819172646912,.nsl]]
def v10:AV:=z5
theorem e10: @memo (G l10) Tryz.prog 3000 111 a10 v10=true:=by kernel_rfl
def l11:List (FuncId×List AV×AV):=(111,a10,v10)::l10
theorem o11: @OvOk (G l11) Tryz.prog:=ov_cons o10 (@memo_ok (G l10) Tryz.prog mo o10 3000 111 a10 v10 e10)
def a11:List AV:=[z3]
def v11:AV:=.tup [.agg [z0,z1],z6,.bool true]
theorem e11: @memo (G l11) Tryz.prog 3000 35 a11 v11=true:=by kernel_rfl
def l12:List (FuncId×List AV×AV):=(35,a11,v11)::l11
theorem o12: @OvOk (G l12) Tryz.prog:=ov_cons o11 (@memo_ok (G l11) Tryz.prog mo o11 3000 35 a11 v11 e11)
def a12:List AV:=[z0]
def v12:AV:=z6
theorem e12: @memo (G l12) Tryz.prog 3000 45 a12 v12=true:=by kernel_rfl
def l13:List (FuncId×List AV×AV):=(45,a12,v12)::l12
theorem o13: @OvOk (G l13) Tryz.prog:=ov_cons o12 (@memo_ok (G l12) Tryz.prog mo o12 3000 45 a12 v12 e12)
def a13:List AV:=[z0,.vsl 1 27 [z5,.int .i64 3,z6,.str [107],z4,z6,z6,z6,z6,z7,.vsl 1 10 [z9,z6,.str [120],z4,z6,z6,z6,z6,z7,.nsl],z9,z6,.str [97],z4,z6,z6,z6,z6,z7,.nsl,.nsl,.nsl,z4,z6,z6,.nsl]]
def v13:AV:=.tup [.vsl 1 27 [z5,.int .i64 3,z9,.str [107],z4,.int .i64 6,.int .i64 3,z6,z6,z7,.vsl 1 10 [z9,z9,.str [120],z4,.int .i64 4,z6,z6,z6,z7,.nsl],z9,z9,.str [97],z4,z6,z6,z6,z6,z7,.nsl,.nsl,.nsl,z4,z6,z6,.nsl],z6]
theorem e13: @memo (G l13) Tryz.prog 3000 46 a13 v13=true:=by kernel_rfl
def l14:List (FuncId×List AV×AV):=(46,a13,v13)::l13
theorem o14: @OvOk (G l14) Tryz.prog:=ov_cons o13 (@memo_ok (G l13) Tryz.prog mo o13 3000 46 a13 v13 e13)
def a14:List AV:=[z0,.nsl]
def v14:AV:=.tup [.nsl,z6]
theorem e14: @memo (G l14) Tryz.prog 3000 46 a14 v14=true:=by kernel_rfl
def l15:List (FuncId×List AV×AV):=(46,a14,v14)::l14
theorem o15: @OvOk (G l15) Tryz.prog:=ov_cons o14 (@memo_ok (G l14) Tryz.prog mo o14 3000 46 a14 v14 e14)
def a15:List AV:=[z0,z1]
def v15:AV:=.tup [z2,z6]
theorem e15: @memo (G l15) Tryz.prog 3000 46 a15 v15=true:=by kernel_rfl
def l16:List (FuncId×List AV×AV):=(46,a15,v15)::l15
theorem o16: @OvOk (G l16) Tryz.prog:=ov_cons o15 (@memo_ok (G l15) Tryz.prog mo o15 3000 46 a15 v15 e15)
def a16:List AV:=[.agg [z0,z1]]
def v16:AV:=.tup [.agg [z0,z2],z6]
theorem e16: @memo (G l16) Tryz.prog 3000 19 a16 v16=true:=by kernel_rfl
def l17:List (FuncId×List AV×AV):=(19,a16,v16)::l16
theorem o17: @OvOk (G l17) Tryz.prog:=ov_cons o16 (@memo_ok (G l16) Tryz.prog mo o16 3000 19 a16 v16 e16)
theorem eb: @memo (G l17) Tryz.prog 3000 12 [] (.bool true)=true:=by kernel_rfl
end Beg
theorem k12:Pure Tryz.prog 12 [] (.bool true):= @memo_ok (Beg.G Beg.l17) Tryz.prog mo Beg.o17 3000 12 [] (.bool true) Beg.eb
end Go.Proofs.YtjconanknjgpnaaGreat.vars
