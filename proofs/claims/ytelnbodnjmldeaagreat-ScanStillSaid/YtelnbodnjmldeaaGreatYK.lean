/-
  Mach's laws: what they begin with.
-/
import Derived.Test.YtelnbodnjmldeaaGreatYF
import Derived.Test.YtelnbodnjmldeaaGreatFA
import Derived.Test.YtelnbodnjmldeaaGreatSyP
set_option maxRecDepth 100000
set_option linter.unusedVariables false
set_option linter.unusedSimpArgs false
open List renaming not_mem_nil→za',mem_cons_of_mem→zc',getElem_mem→zd',mem_append_left→ze',mem_append_right→zf',mem_cons_self→zg',take_of_length_le→zj',mem_append→zk',length_append→zl'
open Nat renaming zero_le→zb',beq_refl→zh',not_lt_zero→zi'
namespace Go.Proofs.YtelnbodnjmldeaaGreat.vars
open Go Go.Sx
theorem By_ {b:List GS} {e:Bool} (h0:e=false->b=[]) (h1:e=true->b.length<=5/\∀s∈b,TS 3 s):b.length<=5/\∀s∈b,TS 3 s:=by
 cases e with
 |true=>exact h1 rfl
 |false=>rw [h0 rfl];exact ⟨zb' _,λs hs=>(za' hs).elim⟩
theorem AA_ {x:List GS} (h:pe x=0):(w_ x).length<=400/\pl x=k_ (w_ x):=by unfold pe at h;split at h;rename_i hl;exact ⟨hl,by unfold pl;rw [if_pos hl]⟩;cases h
theorem AE_ {x:List GS} (hT:∀s∈x,TS 3 s) {mem:List FV} (hm:MemOk mem) {now:Int}:MTs (w_ x) (tyP x) (BG_ mem now):=by
 have h0:=Fp_ hT;have hl:0<(w_ x).length:=by rw [←zw_];exact (List.getElem?_eq_some_iff.1 h0).1
 exact ⟨0,(w_ x)[0],[],rfl,List.getElem?_eq_getElem hl,h0,rfl,λv hv=>(za' hv).elim,hm⟩
theorem MTs.small {l:List GI} {T:List (List Int)} {m:MS} (hG:Good T 0 l) (h:MTs l T m):m.st.length<=40/\MemOk m.mem:=by obtain ⟨p,i,K,h⟩:=h;have hT:=hG p i K h.at_ (by rw [Nat.zero_add];exact h.ty);obtain ⟨K0,ks,e,_,h40,_⟩:=hT;have:=congrArg List.length h.st;rw [List.length_map]at this;exact ⟨by omega,h.mem⟩
theorem GZ_ (l:List GI) {m:MS} {s:AV} (hs:St m.st s) {r:List AV} (hr:okL r=true):okL (k_ l::(KR m s++r))=true:=GW_ l m (St.okC hs) hr
def FN_:VC:=⟨⟨[],[]⟩,[],[],0,true,[]⟩
def EE_:VT:=It Z7 [64,65] 67 (Li Zt [64,66] 68<|.done (68))<|.done (.bool false)
def FM_:VC:=⟨⟨[],[]⟩,[(108,[none])],[],0,true,[]⟩
def Hs_:VT:=.call 108 [66,J 0,J 63] 71 [none]<|.done (71)
def FO_:VC:=⟨⟨[],[]⟩,[(108,[none])],[],0,true,[]⟩
def Ht_:VT:=.call 108 [66,J 0,J 399] 71 [none]<|.done (71)
def FP_:VC:=⟨⟨[],[]⟩,[],[],0,true,[]⟩
def EF_:VT:=Iq 64 11 65 (.done (J 1))<|Iq 64 12 66 (.done (J 1))<|.done (J 2)
def FQ_:VC:=⟨⟨[],[]⟩,[],[],0,true,[]⟩
def EG_:VT:=Iq 64 9 65 (.done (.tup [J 1,J 5]))<|Iq 64 10 66 (.done (.tup [J 1,J 5]))<|Iq 64 13 67 (.done (.tup [J 1,J 1]))<|Iq 64 14 68 (.done (.tup [J 1,J 1]))<|Iq 64 15 69 (.done (.tup [J 1,J 1]))<|Iq 64 8 70 (.done (.tup [J 2,J 4]))<|.done (.tup [J 2,J 5])
def FL_:VC:=⟨⟨[],[]⟩,[],[],0,true,[]⟩
def ED_:VT:=Iq 64 0 67 (It Qt [65,J 0] 68 (It Zf [66,66] 69 (.done (.bool false))<|Li (.ext 159) [66] 70<|Li Ui [70,.int .u64 0] 71<|.done (71))<|.done (.bool false))<|.done (.bool false)
def FK_:VC:=⟨⟨[],[]⟩,[],[],0,true,[]⟩
def EC_:VT:=Iq 64 5 67 (Li Qt [65,J 0] 68<|.done (68))<|It Zf [66,66] 68 (.done (.bool false))<|Li (.ext 159) [66] 69<|It Uj [69,.int .u64 0] 70 (.done (.bool false))<|Iq 64 1 71 (It Qt [65,J 0] 72 (.done (.bool true))<|Li Qt [65,J 1] 73<|.done (73))<|Iq 64 2 72 (Li (.conv 2 219) [65] 73<|Li (.conv 219 2) [73] 74<|Li Qq [65,74] 75<|.done (75))<|Iq 64 3 73 (Li (.conv 2 21) [65] 74<|Li (.conv 21 2) [74] 75<|Li Qq [65,75] 76<|.done (76))<|Li Q0 [64,J 4] 74<|.done (74)
def c63:VC:=⟨⟨[],[]⟩,[(106,[none]),(105,[none]),(111,[none,none]),(110,[none]),(107,[none]),(108,[none]),(109,[none])],[],0,true,[]⟩
def t63:VT:=Iq 64 1 71 (Iq 66 0 72 (Iq 67 0 73 (It Q9 [65,68] 74 (.call 105 [.agg [68,69,70]] 75 [none]<|.done (75))<|.done (.bool false))<|.done (.bool false))<|.done (.bool false))<|.call 106 [.agg [68,69,70]] 72 [none]<|It Q6 [72] 73 (.done (.bool false))<|Iq 64 2 74 (Iq 65 0 75 (Iq 67 0 76 (.call 107 [.agg [64,65,66,67,68,69,70]] 77 [none]<|.done (77))<|.done (.bool false))<|.done (.bool false))<|Iq 64 18 75 (Iq 65 0 76 (Iq 67 0 77 (.call 107 [.agg [64,65,66,67,68,69,70]] 78 [none]<|.done (78))<|.done (.bool false))<|.done (.bool false))<|Iq 64 3 76 (Iq 65 0 77 (.call 107 [.agg [64,65,66,67,68,69,70]] 78 [none]<|.ite 78 (.call 108 [67,J 1,J 8] 79 [none]<|.done (79))<|.done (.bool false))<|.done (.bool false))<|Iq 64 19 77 (Iq 65 0 78 (.call 107 [.agg [64,65,66,67,68,69,70]] 79 [none]<|.ite 79 (.call 108 [67,J 1,J 8] 80 [none]<|.done (80))<|.done (.bool false))<|.done (.bool false))<|Iq 64 20 78 (Iq 65 0 79 (Iq 67 0 80 (.call 109 [.agg [64,65,66,67,68,69,70]] 81 [none]<|.done (81))<|.done (.bool false))<|.done (.bool false))<|Iq 64 21 79 (Iq 65 0 80 (Iq 67 0 81 (.call 109 [.agg [64,65,66,67,68,69,70]] 82 [none]<|.done (82))<|.done (.bool false))<|.done (.bool false))<|Iq 64 22 80 (.call 108 [65,J 6,J 12] 81 [none]<|.ite 81 (.call 107 [.agg [64,65,66,67,68,69,70]] 82 [none]<|.ite 82 (.call 110 [65] 83 [none]<|Li Q9 [67,83] 84<|.done (84))<|.done (.bool false))<|.done (.bool false))<|Iq 64 23 81 (Iq 65 0 82 (Iq 66 0 83 (Li Q0 [67,J 0] 84<|.done (84))<|.done (.bool false))<|.done (.bool false))<|Iq 64 17 82 (Iq 66 0 83 (.call 108 [65,J 2,J 5] 84 [none]<|.ite 84 (.call 108 [67,J 2,J 5] 85 [none]<|.done (85))<|.done (.bool false))<|.done (.bool false))<|.call 111 [64] 83 [none,none]<|.call 108 [64,J 4,J 16] 85 [none]<|.ite 85 (Iq 66 0 86 (Iq 67 0 87 (.call 108 [65,83,84] 88 [none]<|.done (88))<|.done (.bool false))<|.done (.bool false))<|.done (.bool false)
section
variable {Q:AV->Prop} {L:List (Nat->List AV->Prop)} {Y:Sy}
theorem bE {p q:Prop} [Decidable p] [Decidable q] (h:p↔q):AV.bool (decide p)=AV.bool (decide q):=congrArg AV.bool (decide_eq_decide.2 h)
theorem bT {q:Prop} [Decidable q] (h:q):AV.bool true=AV.bool (decide q):=congrArg AV.bool (decide_eq_true h).symm
theorem bF {q:Prop} [Decidable q] (h:¬q):AV.bool false=AV.bool (decide q):=congrArg AV.bool (decide_eq_false h).symm
theorem dT {p:Prop} [Decidable p] (h:decide p=true):p:=of_decide_eq_true h
theorem dF {p:Prop} [Decidable p] (h:decide p=false):¬p:=of_decide_eq_false h
end
def OkV (k i:Int) (f:Nat):Prop:=(k=5/\i=0)\/(f=0/\((k=1/\(i=0\/i=1))\/(k=2/\ -32768<=i/\i<=32767)\/(k=3/\ -2147483648<=i/\i<=2147483647)\/k=4))
instance (k i:Int) (f:Nat):Decidable (OkV k i f):=by unfold OkV;infer_instance
def loI (op:Int):Int:=if op=9\/op=10\/op=13\/op=14\/op=15 then 1 else 2
def hiI (op:Int):Int:=if op=13\/op=14\/op=15 then 1 else if op=8 then 4 else 5
def vr_ (op kd ad n vk vi:Int) (vf:Nat):Prop:=(op=1/\ad=0/\n=0/\kd=vk/\OkV vk vi vf)\/(op≠1/\vk=0/\vi=0/\vf=0/\
 (((op=2\/op=18)/\kd=0/\n=0/\0<=ad/\ad<=63)\/((op=3\/op=19)/\kd=0/\0<=ad/\ad<=63/\1<=n/\n<=8)\/((op=20\/op=21)/\kd=0/\n=0/\0<=ad/\ad<=399)\/
  (op=22/\6<=kd/\kd<=12/\0<=ad/\ad<=63/\n=(if kd=11\/kd=12 then 1 else 2))\/(op=23/\kd=0/\ad=0/\n=0)\/(op=17/\ad=0/\2<=kd/\kd<=5/\2<=n/\n<=5)\/
  (4<=op/\op<=16/\ad=0/\n=0/\loI op<=kd/\kd<=hiI op)))
instance (op kd ad n vk vi:Int) (vf:Nat):Decidable (vr_ op kd ad n vk vi vf):=by unfold vr_;infer_instance
theorem c_ (n a b:Int):jD_ Tryz.prog 108 [.int .i64 n,.int .i64 a,.int .i64 b] (.bool (decide (a<=n/\n<=b))):=by refine uk_ (sh:=[none,none,none]) (ls:=[.int .i64 n,.int .i64 a,.int .i64 b]) (c:=FN_) (n:=300) (t:=EE_) mo ov rfl rfl rfl (λY _=>vX_ _) rfl (by kernel_rfl) λY hf hg=>?_;unfold EE_;refine VOK_lt (run_geq ..) rfl (vz_ rfl (λh=>VOK_lt (run_leq ..) rfl (uX_ (bE ?_))) (λh=>uX_ (bF ?_)));have:=dT h;omega;have:=dF h;omega
theorem G3_ (g:GI):jD_ Tryz.prog 107 [.agg (l_ g)] (.bool (decide (0<=g.ad/\g.ad<=63))):=by refine uk_ (sh:=[some 7]) (ls:=l_ g) (c:=FM_) (n:=300) (t:=Hs_) mo ov rfl (okG _) rfl (λY _=>vX_ _) rfl (by kernel_rfl) λY hf hg=>?_;exact uW_ (c_ _ _ _) rfl rfl (uX_ rfl)
theorem G4_ (g:GI):jD_ Tryz.prog 109 [.agg (l_ g)] (.bool (decide (0<=g.ad/\g.ad<=399))):=by refine uk_ (sh:=[some 7]) (ls:=l_ g) (c:=FO_) (n:=300) (t:=Ht_) mo ov rfl (okG _) rfl (λY _=>vX_ _) rfl (by kernel_rfl) λY hf hg=>?_;exact uW_ (c_ _ _ _) rfl rfl (uX_ rfl)
theorem iK {a b:Int} (h:a=b):AV.int .i64 a=AV.int .i64 b:=by rw [h]
theorem tK {a b c d:Int} (h:a=c) (h':b=d):AV.tup [.int .i64 a,.int .i64 b]=.tup [.int .i64 c,.int .i64 d]:=by rw [h,h']
theorem w9_ (k:Int):jD_ Tryz.prog 110 [.int .i64 k] (.int .i64 (if k=11\/k=12 then 1 else 2)):=by
 refine uk_ (sh:=[none]) (ls:=[.int .i64 k]) (c:=FP_) (n:=300) (t:=EF_) mo ov rfl rfl rfl (λY _=>vX_ _) rfl (by kernel_rfl) λY hf hg=>?_;unfold EF_;repeat' (refine b_ rfl rfl ?_ ?_<;>intro h<;>simp only [nc]at h<;>try omega)
 all_goals exact uX_ (iK (by split<;>omega))
theorem xa_ (op:Int):jD_ Tryz.prog 111 [.int .i64 op] (.tup [.int .i64 (loI op),.int .i64 (hiI op)]):=by
 refine uk_ (sh:=[none]) (ls:=[.int .i64 op]) (c:=FQ_) (n:=300) (t:=EG_) mo ov rfl rfl rfl (λY _=>vX_ _) rfl (by kernel_rfl) λY hf hg=>?_;unfold EG_;repeat' (refine b_ rfl rfl ?_ ?_<;>intro h<;>simp only [nc]at h<;>try omega)
 all_goals exact uX_ (tK (by unfold loI;split<;>omega) (by unfold hiI;(repeat' split)<;>omega))
theorem xR_ (n:Nat):(XOp.ext 159).run Tryz.prog [.flt .f64 n]=some (.int .u64 (n:Int)):=by kernel_rfl
theorem D4_ {n:Nat} (h:d9_ n=true):n≠0:=by unfold d9_ at h;have:=of_decide_eq_true h;omega
def Du_ (n:Nat):Int:=if d9_ n=true then 9221120237041090561 else (n:Int)
theorem Co_ (n:Nat):jD_ Tryz.prog 119 [.flt .f64 n] (.int .u64 (Du_ n)):=by refine uk_ (sh:=[none]) (ls:=[.flt .f64 n]) (c:=Dz_) (n:=300) (t:=BR_) mo ov rfl rfl rfl (λY _=>vX_ _) rfl (by kernel_rfl) λY hf hg=>?_;unfold BR_;refine VOK_lt (uS_ ..) rfl (vz_ rfl (λh=>uX_ ?_) (λh=>VOK_lt (xR_ n) rfl (uX_ ?_)));have h:d9_ n=true:=h;exact congrArg (AV.int .u64) (if_pos h).symm;have h:d9_ n=false:=h;exact congrArg (AV.int .u64) (if_neg (by rw [h];exact Bool.false_ne_true)).symm
theorem w8_ (k i:Int) (f:Nat):jD_ Tryz.prog 106 [.agg [.int .i64 k,.int .i64 i,.flt .f64 f]] (.bool (decide (k=0/\i=0/\f=0))):=by refine uk_ (sh:=[some 3]) (ls:=[.int .i64 k,.int .i64 i,.flt .f64 f]) (c:=FL_) (n:=300) (t:=ED_) mo ov rfl rfl rfl (λY _=>vX_ _) rfl (by kernel_rfl) λY hf hg=>?_;unfold ED_;refine VOK_lt (run_eql ..) rfl (vz_ rfl (λh=>?_) (λh=>uX_ (bF (by have:=dF h;omega))));refine VOK_lt (run_eql ..) rfl (vz_ rfl (λh2=>?_) (λh2=>uX_ (bF (by have:=dF h2;omega))));have h:=dT h;have h2:=dT h2;refine VOK_lt (uS_ ..) rfl (vz_ rfl (λhn=>uX_ (bF ?_)) (λhn=>VOK_lt (xR_ f) rfl (VOK_lt (run_eql ..) rfl (uX_ (bE ?_)))));have:=D4_ hn;omega;omega
theorem B2_ (i:Int):i=IntKind.i64.wrap (IntKind.i16.wrap i)↔(-32768<=i/\i<=32767):=by simp [IntKind.wrap,IntKind.bits,IntKind.signed];omega
theorem B3_ (i:Int):i=IntKind.i64.wrap (IntKind.i32.wrap i)↔(-2147483648<=i/\i<=2147483647):=by simp [IntKind.wrap,IntKind.bits,IntKind.signed];omega
theorem G2_ (k i:Int) (f:Nat):jD_ Tryz.prog 105 [.agg [.int .i64 k,.int .i64 i,.flt .f64 f]] (.bool (decide (OkV k i f))):=by refine uk_ (sh:=[some 3]) (ls:=[.int .i64 k,.int .i64 i,.flt .f64 f]) (c:=FK_) (n:=300) (t:=EC_) mo ov rfl rfl rfl (λY _=>vX_ _) rfl (by kernel_rfl) λY hf hg=>?_;unfold EC_;refine VOK_lt (run_eql ..) rfl (vz_ rfl (λh5=>VOK_lt (run_eql ..) rfl (uX_ (bE ?_))) (λh5=>?_));have:=dT h5;unfold OkV;omega;have h5:=dF h5;refine VOK_lt (uS_ ..) rfl (vz_ rfl (λhn=>uX_ (bF ?_)) (λhn=>VOK_lt (xR_ f) rfl (VOK_lt (run_neq ..) rfl (vz_ rfl (λh0=>uX_ (bF ?_)) (λh0=>?_)))));have:=D4_ hn;unfold OkV;omega;have h0:(!decide ((f:Int)=0))=true:=h0;simp only [Bool.not_eq_true',decide_eq_false_iff_not]at h0;unfold OkV;omega;have h0:(!decide ((f:Int)=0))=false:=h0;simp only [Bool.not_eq_false',decide_eq_true_eq]at h0;refine VOK_lt (run_eql ..) rfl (vz_ rfl (λh1=>?_) (λh1=>?_));have h1:=dT h1;refine VOK_lt (run_eql ..) rfl (vz_ rfl (λhi=>uX_ (bT ?_)) (λhi=>VOK_lt (run_eql ..) rfl (uX_ (bE ?_))));have:=dT hi;unfold OkV;omega;have:=dF hi;unfold OkV;omega;have h1:=dF h1;refine VOK_lt (run_eql ..) rfl (vz_ rfl (λh2=>?_) (λh2=>?_));have h2:=dT h2;refine VOK_lt (tR_ Tryz.underlying2 Tryz.underlying219 _) rfl (VOK_lt (tR_ Tryz.underlying219 Tryz.underlying2 _) rfl (VOK_lt (run_eql ..) rfl (uX_ (bE ((B2_ i).trans ?_)))));unfold OkV;omega;have h2:=dF h2;refine VOK_lt (run_eql ..) rfl (vz_ rfl (λh3=>?_) (λh3=>?_));have h3:=dT h3;refine VOK_lt (tR_ Tryz.underlying2 Tryz.underlying21 _) rfl (VOK_lt (tR_ Tryz.underlying21 Tryz.underlying2 _) rfl (VOK_lt (run_eql ..) rfl (uX_ (bE ((B3_ i).trans ?_)))));unfold OkV;omega;have h3:=dF h3;refine VOK_lt (run_eql ..) rfl (uX_ (bE ?_));unfold OkV;omega
section
variable {op kd ad n vk vi:Int} {vf:Nat}
theorem GR_ (h:op=1):vr_ op kd ad n vk vi vf↔(ad=0/\n=0/\kd=vk/\OkV vk vi vf):=by unfold vr_;exact ⟨λq=>q.elim (λq=>q.2) (λq=>absurd h q.1),λq=>.inl ⟨h,q⟩⟩
theorem vG_ (h:op≠1):vr_ op kd ad n vk vi vf↔(vk=0/\vi=0/\vf=0/\
 (((op=2\/op=18)/\kd=0/\n=0/\0<=ad/\ad<=63)\/((op=3\/op=19)/\kd=0/\0<=ad/\ad<=63/\1<=n/\n<=8)\/((op=20\/op=21)/\kd=0/\n=0/\0<=ad/\ad<=399)\/
  (op=22/\6<=kd/\kd<=12/\0<=ad/\ad<=63/\n=(if kd=11\/kd=12 then 1 else 2))\/(op=23/\kd=0/\ad=0/\n=0)\/(op=17/\ad=0/\2<=kd/\kd<=5/\2<=n/\n<=5)\/
  (4<=op/\op<=16/\ad=0/\n=0/\loI op<=kd/\kd<=hiI op))):=by
 unfold vr_;exact ⟨λq=>q.elim (λq=>absurd q.1 h) (λq=>q.2),λq=>.inr ⟨h,q⟩⟩
theorem GS_ (h:op=2\/op=18):vr_ op kd ad n vk vi vf↔(vk=0/\vi=0/\vf=0/\kd=0/\n=0/\0<=ad/\ad<=63):=by refine (vG_ (by omega)).trans ⟨λq=>?_,λq=>⟨q.1,q.2.1,q.2.2.1,.inl ⟨h,q.2.2.2⟩⟩⟩;obtain ⟨a,b,c,d⟩:=q;refine ⟨a,b,c,?_⟩;rcases d with d|d|d|d|d|d|d<;>omega
theorem GT_ (h:op=3\/op=19):vr_ op kd ad n vk vi vf↔(vk=0/\vi=0/\vf=0/\kd=0/\0<=ad/\ad<=63/\1<=n/\n<=8):=by refine (vG_ (by omega)).trans ⟨λq=>?_,λq=>⟨q.1,q.2.1,q.2.2.1,.inr (.inl ⟨h,q.2.2.2⟩)⟩⟩;obtain ⟨a,b,c,d⟩:=q;refine ⟨a,b,c,?_⟩;rcases d with d|d|d|d|d|d|d<;>omega
theorem D0_ (h:op=20\/op=21):vr_ op kd ad n vk vi vf↔(vk=0/\vi=0/\vf=0/\kd=0/\n=0/\0<=ad/\ad<=399):=by refine (vG_ (by omega)).trans ⟨λq=>?_,λq=>⟨q.1,q.2.1,q.2.2.1,.inr (.inr (.inl ⟨h,q.2.2.2⟩))⟩⟩;obtain ⟨a,b,c,d⟩:=q;refine ⟨a,b,c,?_⟩;rcases d with d|d|d|d|d|d|d<;>omega
theorem D1_ (h:op=22):vr_ op kd ad n vk vi vf↔(vk=0/\vi=0/\vf=0/\6<=kd/\kd<=12/\0<=ad/\ad<=63/\n=(if kd=11\/kd=12 then 1 else 2)):=by refine (vG_ (by omega)).trans ⟨λq=>?_,λq=>⟨q.1,q.2.1,q.2.2.1,.inr (.inr (.inr (.inl ⟨h,q.2.2.2⟩)))⟩⟩;obtain ⟨a,b,c,d⟩:=q;refine ⟨a,b,c,?_⟩;rcases d with d|d|d|d|d|d|d;omega;omega;omega;exact d.2;omega;omega;omega
theorem D2_ (h:op=23):vr_ op kd ad n vk vi vf↔(vk=0/\vi=0/\vf=0/\kd=0/\ad=0/\n=0):=by refine (vG_ (by omega)).trans ⟨λq=>?_,λq=>⟨q.1,q.2.1,q.2.2.1,.inr (.inr (.inr (.inr (.inl ⟨h,q.2.2.2⟩))))⟩⟩;obtain ⟨a,b,c,d⟩:=q;refine ⟨a,b,c,?_⟩;rcases d with d|d|d|d|d|d|d<;>omega
theorem DZ_ (h:op=17):vr_ op kd ad n vk vi vf↔(vk=0/\vi=0/\vf=0/\ad=0/\2<=kd/\kd<=5/\2<=n/\n<=5):=by refine (vG_ (by omega)).trans ⟨λq=>?_,λq=>⟨q.1,q.2.1,q.2.2.1,.inr (.inr (.inr (.inr (.inr (.inl ⟨h,q.2.2.2⟩)))))⟩⟩;obtain ⟨a,b,c,d⟩:=q;refine ⟨a,b,c,?_⟩;rcases d with d|d|d|d|d|d|d<;>omega
theorem Bz_ (lo hi:Int) (h:4<=op/\op<=16) (hl:loI op=lo) (hh:hiI op=hi):vr_ op kd ad n vk vi vf↔(vk=0/\vi=0/\vf=0/\ad=0/\n=0/\lo<=kd/\kd<=hi):=by subst hl hh;refine (vG_ (by omega)).trans ⟨λq=>?_,λq=>⟨q.1,q.2.1,q.2.2.1,.inr (.inr (.inr (.inr (.inr (.inr ⟨h.1,h.2,q.2.2.2⟩)))))⟩⟩;obtain ⟨a,b,c,d⟩:=q;refine ⟨a,b,c,?_⟩;rcases d with d|d|d|d|d|d|d<;>omega
theorem GU_ (h:op<1\/23<op):vr_ op kd ad n vk vi vf↔False:=by refine (vG_ (by omega)).trans ⟨λq=>?_,λq=>q.elim⟩;obtain ⟨a,b,c,d⟩:=q;rcases d with d|d|d|d|d|d|d<;>omega
theorem ops (op:Int):op=1\/(op=2\/op=18)\/(op=3\/op=19)\/(op=20\/op=21)\/op=22\/op=23\/op=17\/(op=9\/op=10)\/(op=13\/op=14\/op=15)\/op=8\/(op=4\/op=5\/op=6\/op=7\/op=11\/op=12\/op=16)\/(op<1\/23<op):=by omega
end
theorem lo9 {op:Int} (h:op=9\/op=10):loI op=1/\hiI op=5:=by rcases h with rfl|rfl<;>exact ⟨rfl,rfl⟩
theorem GQ_ {op:Int} (h:op=13\/op=14\/op=15):loI op=1/\hiI op=1:=by rcases h with rfl|rfl|rfl<;>exact ⟨rfl,rfl⟩
theorem lo4 {op:Int} (h:op=4\/op=5\/op=6\/op=7\/op=11\/op=12\/op=16):loI op=2/\hiI op=5:=by rcases h with rfl|rfl|rfl|rfl|rfl|rfl|rfl<;>exact ⟨rfl,rfl⟩
set_option maxHeartbeats 4000000 in
theorem p63 (g:GI):jD_ Tryz.prog 63 [.agg (l_ g)] (.bool (decide (vr_ g.op g.kd g.ad g.n g.vk g.vi g.vf))):=by
 obtain ⟨op,kd,ad,n,vk,vi,vf⟩:=g;refine uk_ (sh:=[some 7]) (ls:=l_ ⟨op,kd,ad,n,vk,vi,vf⟩) (c:=c63) (n:=300) (t:=t63) mo ov rfl (okG _) rfl (λY _=>vX_ _) rfl (by kernel_rfl) λY hf hg=>?_;show VOK _ (· =AV.bool (decide (vr_ op kd ad n vk vi vf))) _ _ _;have hc:=G3_ ⟨op,kd,ad,n,vk,vi,vf⟩;have hd:=G4_ ⟨op,kd,ad,n,vk,vi,vf⟩;simp only at hc hd;have hz0:(!decide (vk=0/\vi=0/\vf=0))=true->(vk=0/\vi=0/\vf=0)->False:=λh q=>by rw [decide_eq_true q]at h;cases h
 have hz1:(!decide (vk=0/\vi=0/\vf=0))=false->(vk=0/\vi=0/\vf=0):=λh=>by simpa using h
 unfold t63;rcases ops op with h|h|h|h|h|h|h|h|h|h|h|h
 .rw [decide_eq_decide.2 (GR_ h)];refine b_ rfl rfl (λh1=>?_) (λh1=>absurd h h1);repeat' (refine b_ rfl rfl ?_ ?_<;>intro h<;>simp only [nc]at h<;>try omega)
  refine uW_ (G2_ vk vi vf) rfl rfl (uX_ ?_);exact bE ⟨λh=>⟨by omega,by omega,by omega,h⟩,λh=>h.2.2.2⟩;all_goals exact uX_ (bF λq=>by omega)
 .rw [decide_eq_decide.2 (GS_ h)];(
                                    refine b_ rfl rfl (λq1=>?_) (λq1=>?_)<;>simp only [nc]at q1
                                    exfalso;omega;refine uW_ (w8_ vk vi vf) rfl rfl (VOK_lt (vM_ ..) rfl (vz_ rfl (λhz=>uX_ (bF λq=>hz0 hz (by first|omega|exact q.elim))) (λhz=>?_)));obtain ⟨z1,z2,z3⟩:=hz1 hz;repeat' first
                                     |(refine b_ rfl rfl ?_ ?_<;>intro h<;>simp only [nc]at h<;>try omega)
                                     |(refine uW_ hc rfl rfl (vz_ rfl ?_ ?_)<;>intro h<;>(first|replace h:=dT h|replace h:=dF h))
                                     |(refine uW_ (c_ kd 6 12) rfl rfl (vz_ rfl ?_ ?_)<;>intro h<;>(first|replace h:=dT h|replace h:=dF h))
                                     |(refine uW_ (c_ kd 2 5) rfl rfl (vz_ rfl ?_ ?_)<;>intro h<;>(first|replace h:=dT h|replace h:=dF h))
                                     |(refine uW_ (c_ op 4 16) rfl rfl (vz_ rfl ?_ ?_)<;>intro h<;>(first|replace h:=dT h|replace h:=dF h))
                                     |(refine uX_ (bF ?_);omega)
                                     |exact uX_ (bF id)
                                     |(refine VOK_lt (run_eql ..) rfl (uX_ (bE ?_));omega)
                                     |(refine VOK_lt (run_eql ..) rfl (uX_ (bE ?_));dsimp only;omega)
                                     |(refine VOK_lt (run_eql ..) rfl (uX_ (bE ?_));dsimp only;exact ⟨λq=>⟨z1,z2,z3,by omega,by omega,by omega,by omega,q⟩,λq=>q.2.2.2.2.2.2.2⟩)
                                     |(refine uW_ hc rfl rfl (uX_ (bE ?_));omega)
                                     |(refine uW_ hd rfl rfl (uX_ (bE ?_));omega)
                                     |(refine uW_ (c_ n 1 8) rfl rfl (uX_ (bE ?_));omega)
                                     |(refine uW_ (c_ n 2 5) rfl rfl (uX_ (bE ?_));omega)
                                     |(refine uW_ (c_ kd 1 5) rfl rfl (uX_ (bE ?_));omega)
                                     |(refine uW_ (c_ kd 1 1) rfl rfl (uX_ (bE ?_));omega)
                                     |(refine uW_ (c_ kd 2 4) rfl rfl (uX_ (bE ?_));omega)
                                     |(refine uW_ (c_ kd 2 5) rfl rfl (uX_ (bE ?_));omega)
                                     |(refine uW_ (c_ kd (loI op) (hiI op)) rfl rfl (uX_ (bE ?_));omega)
                                     |refine uW_ (w9_ kd) rfl rfl ?_
                                     |refine uW_ (xa_ op) rfl rfl ?_)
 .rw [decide_eq_decide.2 (GT_ h)];(
                                    refine b_ rfl rfl (λq1=>?_) (λq1=>?_)<;>simp only [nc]at q1
                                    exfalso;omega;refine uW_ (w8_ vk vi vf) rfl rfl (VOK_lt (vM_ ..) rfl (vz_ rfl (λhz=>uX_ (bF λq=>hz0 hz (by first|omega|exact q.elim))) (λhz=>?_)));obtain ⟨z1,z2,z3⟩:=hz1 hz;repeat' first
                                     |(refine b_ rfl rfl ?_ ?_<;>intro h<;>simp only [nc]at h<;>try omega)
                                     |(refine uW_ hc rfl rfl (vz_ rfl ?_ ?_)<;>intro h<;>(first|replace h:=dT h|replace h:=dF h))
                                     |(refine uW_ (c_ kd 6 12) rfl rfl (vz_ rfl ?_ ?_)<;>intro h<;>(first|replace h:=dT h|replace h:=dF h))
                                     |(refine uW_ (c_ kd 2 5) rfl rfl (vz_ rfl ?_ ?_)<;>intro h<;>(first|replace h:=dT h|replace h:=dF h))
                                     |(refine uW_ (c_ op 4 16) rfl rfl (vz_ rfl ?_ ?_)<;>intro h<;>(first|replace h:=dT h|replace h:=dF h))
                                     |(refine uX_ (bF ?_);omega)
                                     |exact uX_ (bF id)
                                     |(refine VOK_lt (run_eql ..) rfl (uX_ (bE ?_));omega)
                                     |(refine VOK_lt (run_eql ..) rfl (uX_ (bE ?_));dsimp only;omega)
                                     |(refine VOK_lt (run_eql ..) rfl (uX_ (bE ?_));dsimp only;exact ⟨λq=>⟨z1,z2,z3,by omega,by omega,by omega,by omega,q⟩,λq=>q.2.2.2.2.2.2.2⟩)
                                     |(refine uW_ hc rfl rfl (uX_ (bE ?_));omega)
                                     |(refine uW_ hd rfl rfl (uX_ (bE ?_));omega)
                                     |(refine uW_ (c_ n 1 8) rfl rfl (uX_ (bE ?_));omega)
                                     |(refine uW_ (c_ n 2 5) rfl rfl (uX_ (bE ?_));omega)
                                     |(refine uW_ (c_ kd 1 5) rfl rfl (uX_ (bE ?_));omega)
                                     |(refine uW_ (c_ kd 1 1) rfl rfl (uX_ (bE ?_));omega)
                                     |(refine uW_ (c_ kd 2 4) rfl rfl (uX_ (bE ?_));omega)
                                     |(refine uW_ (c_ kd 2 5) rfl rfl (uX_ (bE ?_));omega)
                                     |(refine uW_ (c_ kd (loI op) (hiI op)) rfl rfl (uX_ (bE ?_));omega)
                                     |refine uW_ (w9_ kd) rfl rfl ?_
                                     |refine uW_ (xa_ op) rfl rfl ?_)
 .rw [decide_eq_decide.2 (D0_ h)];(
                                     refine b_ rfl rfl (λq1=>?_) (λq1=>?_)<;>simp only [nc]at q1
                                     exfalso;omega;refine uW_ (w8_ vk vi vf) rfl rfl (VOK_lt (vM_ ..) rfl (vz_ rfl (λhz=>uX_ (bF λq=>hz0 hz (by first|omega|exact q.elim))) (λhz=>?_)));obtain ⟨z1,z2,z3⟩:=hz1 hz;repeat' first
                                      |(refine b_ rfl rfl ?_ ?_<;>intro h<;>simp only [nc]at h<;>try omega)
                                      |(refine uW_ hc rfl rfl (vz_ rfl ?_ ?_)<;>intro h<;>(first|replace h:=dT h|replace h:=dF h))
                                      |(refine uW_ (c_ kd 6 12) rfl rfl (vz_ rfl ?_ ?_)<;>intro h<;>(first|replace h:=dT h|replace h:=dF h))
                                      |(refine uW_ (c_ kd 2 5) rfl rfl (vz_ rfl ?_ ?_)<;>intro h<;>(first|replace h:=dT h|replace h:=dF h))
                                      |(refine uW_ (c_ op 4 16) rfl rfl (vz_ rfl ?_ ?_)<;>intro h<;>(first|replace h:=dT h|replace h:=dF h))
                                      |(refine uX_ (bF ?_);omega)
                                      |exact uX_ (bF id)
                                      |(refine VOK_lt (run_eql ..) rfl (uX_ (bE ?_));omega)
                                      |(refine VOK_lt (run_eql ..) rfl (uX_ (bE ?_));dsimp only;omega)
                                      |(refine VOK_lt (run_eql ..) rfl (uX_ (bE ?_));dsimp only;exact ⟨λq=>⟨z1,z2,z3,by omega,by omega,by omega,by omega,q⟩,λq=>q.2.2.2.2.2.2.2⟩)
                                      |(refine uW_ hc rfl rfl (uX_ (bE ?_));omega)
                                      |(refine uW_ hd rfl rfl (uX_ (bE ?_));omega)
                                      |(refine uW_ (c_ n 1 8) rfl rfl (uX_ (bE ?_));omega)
                                      |(refine uW_ (c_ n 2 5) rfl rfl (uX_ (bE ?_));omega)
                                      |(refine uW_ (c_ kd 1 5) rfl rfl (uX_ (bE ?_));omega)
                                      |(refine uW_ (c_ kd 1 1) rfl rfl (uX_ (bE ?_));omega)
                                      |(refine uW_ (c_ kd 2 4) rfl rfl (uX_ (bE ?_));omega)
                                      |(refine uW_ (c_ kd 2 5) rfl rfl (uX_ (bE ?_));omega)
                                      |(refine uW_ (c_ kd (loI op) (hiI op)) rfl rfl (uX_ (bE ?_));omega)
                                      |refine uW_ (w9_ kd) rfl rfl ?_
                                      |refine uW_ (xa_ op) rfl rfl ?_)
 .rw [decide_eq_decide.2 (D1_ h)];(
                                     refine b_ rfl rfl (λq1=>?_) (λq1=>?_)<;>simp only [nc]at q1
                                     exfalso;omega;refine uW_ (w8_ vk vi vf) rfl rfl (VOK_lt (vM_ ..) rfl (vz_ rfl (λhz=>uX_ (bF λq=>hz0 hz (by first|omega|exact q.elim))) (λhz=>?_)));obtain ⟨z1,z2,z3⟩:=hz1 hz;repeat' first
                                      |(refine b_ rfl rfl ?_ ?_<;>intro h<;>simp only [nc]at h<;>try omega)
                                      |(refine uW_ hc rfl rfl (vz_ rfl ?_ ?_)<;>intro h<;>(first|replace h:=dT h|replace h:=dF h))
                                      |(refine uW_ (c_ kd 6 12) rfl rfl (vz_ rfl ?_ ?_)<;>intro h<;>(first|replace h:=dT h|replace h:=dF h))
                                      |(refine uW_ (c_ kd 2 5) rfl rfl (vz_ rfl ?_ ?_)<;>intro h<;>(first|replace h:=dT h|replace h:=dF h))
                                      |(refine uW_ (c_ op 4 16) rfl rfl (vz_ rfl ?_ ?_)<;>intro h<;>(first|replace h:=dT h|replace h:=dF h))
                                      |(refine uX_ (bF ?_);omega)
                                      |exact uX_ (bF id)
                                      |(refine VOK_lt (run_eql ..) rfl (uX_ (bE ?_));omega)
                                      |(refine VOK_lt (run_eql ..) rfl (uX_ (bE ?_));dsimp only;omega)
                                      |(refine VOK_lt (run_eql ..) rfl (uX_ (bE ?_));dsimp only;exact ⟨λq=>⟨z1,z2,z3,by omega,by omega,by omega,by omega,q⟩,λq=>q.2.2.2.2.2.2.2⟩)
                                      |(refine uW_ hc rfl rfl (uX_ (bE ?_));omega)
                                      |(refine uW_ hd rfl rfl (uX_ (bE ?_));omega)
                                      |(refine uW_ (c_ n 1 8) rfl rfl (uX_ (bE ?_));omega)
                                      |(refine uW_ (c_ n 2 5) rfl rfl (uX_ (bE ?_));omega)
                                      |(refine uW_ (c_ kd 1 5) rfl rfl (uX_ (bE ?_));omega)
                                      |(refine uW_ (c_ kd 1 1) rfl rfl (uX_ (bE ?_));omega)
                                      |(refine uW_ (c_ kd 2 4) rfl rfl (uX_ (bE ?_));omega)
                                      |(refine uW_ (c_ kd 2 5) rfl rfl (uX_ (bE ?_));omega)
                                      |(refine uW_ (c_ kd (loI op) (hiI op)) rfl rfl (uX_ (bE ?_));omega)
                                      |refine uW_ (w9_ kd) rfl rfl ?_
                                      |refine uW_ (xa_ op) rfl rfl ?_)
 .rw [decide_eq_decide.2 (D2_ h)];(
                                     refine b_ rfl rfl (λq1=>?_) (λq1=>?_)<;>simp only [nc]at q1
                                     exfalso;omega;refine uW_ (w8_ vk vi vf) rfl rfl (VOK_lt (vM_ ..) rfl (vz_ rfl (λhz=>uX_ (bF λq=>hz0 hz (by first|omega|exact q.elim))) (λhz=>?_)));obtain ⟨z1,z2,z3⟩:=hz1 hz;repeat' first
                                      |(refine b_ rfl rfl ?_ ?_<;>intro h<;>simp only [nc]at h<;>try omega)
                                      |(refine uW_ hc rfl rfl (vz_ rfl ?_ ?_)<;>intro h<;>(first|replace h:=dT h|replace h:=dF h))
                                      |(refine uW_ (c_ kd 6 12) rfl rfl (vz_ rfl ?_ ?_)<;>intro h<;>(first|replace h:=dT h|replace h:=dF h))
                                      |(refine uW_ (c_ kd 2 5) rfl rfl (vz_ rfl ?_ ?_)<;>intro h<;>(first|replace h:=dT h|replace h:=dF h))
                                      |(refine uW_ (c_ op 4 16) rfl rfl (vz_ rfl ?_ ?_)<;>intro h<;>(first|replace h:=dT h|replace h:=dF h))
                                      |(refine uX_ (bF ?_);omega)
                                      |exact uX_ (bF id)
                                      |(refine VOK_lt (run_eql ..) rfl (uX_ (bE ?_));omega)
                                      |(refine VOK_lt (run_eql ..) rfl (uX_ (bE ?_));dsimp only;omega)
                                      |(refine VOK_lt (run_eql ..) rfl (uX_ (bE ?_));dsimp only;exact ⟨λq=>⟨z1,z2,z3,by omega,by omega,by omega,by omega,q⟩,λq=>q.2.2.2.2.2.2.2⟩)
                                      |(refine uW_ hc rfl rfl (uX_ (bE ?_));omega)
                                      |(refine uW_ hd rfl rfl (uX_ (bE ?_));omega)
                                      |(refine uW_ (c_ n 1 8) rfl rfl (uX_ (bE ?_));omega)
                                      |(refine uW_ (c_ n 2 5) rfl rfl (uX_ (bE ?_));omega)
                                      |(refine uW_ (c_ kd 1 5) rfl rfl (uX_ (bE ?_));omega)
                                      |(refine uW_ (c_ kd 1 1) rfl rfl (uX_ (bE ?_));omega)
                                      |(refine uW_ (c_ kd 2 4) rfl rfl (uX_ (bE ?_));omega)
                                      |(refine uW_ (c_ kd 2 5) rfl rfl (uX_ (bE ?_));omega)
                                      |(refine uW_ (c_ kd (loI op) (hiI op)) rfl rfl (uX_ (bE ?_));omega)
                                      |refine uW_ (w9_ kd) rfl rfl ?_
                                      |refine uW_ (xa_ op) rfl rfl ?_)
 .rw [decide_eq_decide.2 (DZ_ h)];(
                                     refine b_ rfl rfl (λq1=>?_) (λq1=>?_)<;>simp only [nc]at q1
                                     exfalso;omega;refine uW_ (w8_ vk vi vf) rfl rfl (VOK_lt (vM_ ..) rfl (vz_ rfl (λhz=>uX_ (bF λq=>hz0 hz (by first|omega|exact q.elim))) (λhz=>?_)));obtain ⟨z1,z2,z3⟩:=hz1 hz;repeat' first
                                      |(refine b_ rfl rfl ?_ ?_<;>intro h<;>simp only [nc]at h<;>try omega)
                                      |(refine uW_ hc rfl rfl (vz_ rfl ?_ ?_)<;>intro h<;>(first|replace h:=dT h|replace h:=dF h))
                                      |(refine uW_ (c_ kd 6 12) rfl rfl (vz_ rfl ?_ ?_)<;>intro h<;>(first|replace h:=dT h|replace h:=dF h))
                                      |(refine uW_ (c_ kd 2 5) rfl rfl (vz_ rfl ?_ ?_)<;>intro h<;>(first|replace h:=dT h|replace h:=dF h))
                                      |(refine uW_ (c_ op 4 16) rfl rfl (vz_ rfl ?_ ?_)<;>intro h<;>(first|replace h:=dT h|replace h:=dF h))
                                      |(refine uX_ (bF ?_);omega)
                                      |exact uX_ (bF id)
                                      |(refine VOK_lt (run_eql ..) rfl (uX_ (bE ?_));omega)
                                      |(refine VOK_lt (run_eql ..) rfl (uX_ (bE ?_));dsimp only;omega)
                                      |(refine VOK_lt (run_eql ..) rfl (uX_ (bE ?_));dsimp only;exact ⟨λq=>⟨z1,z2,z3,by omega,by omega,by omega,by omega,q⟩,λq=>q.2.2.2.2.2.2.2⟩)
                                      |(refine uW_ hc rfl rfl (uX_ (bE ?_));omega)
                                      |(refine uW_ hd rfl rfl (uX_ (bE ?_));omega)
                                      |(refine uW_ (c_ n 1 8) rfl rfl (uX_ (bE ?_));omega)
                                      |(refine uW_ (c_ n 2 5) rfl rfl (uX_ (bE ?_));omega)
                                      |(refine uW_ (c_ kd 1 5) rfl rfl (uX_ (bE ?_));omega)
                                      |(refine uW_ (c_ kd 1 1) rfl rfl (uX_ (bE ?_));omega)
                                      |(refine uW_ (c_ kd 2 4) rfl rfl (uX_ (bE ?_));omega)
                                      |(refine uW_ (c_ kd 2 5) rfl rfl (uX_ (bE ?_));omega)
                                      |(refine uW_ (c_ kd (loI op) (hiI op)) rfl rfl (uX_ (bE ?_));omega)
                                      |refine uW_ (w9_ kd) rfl rfl ?_
                                      |refine uW_ (xa_ op) rfl rfl ?_)
 .obtain ⟨e1,e2⟩:=lo9 h
  rw [decide_eq_decide.2 (Bz_ 1 5 (by omega) e1 e2)];(
                                                       refine b_ rfl rfl (λq1=>?_) (λq1=>?_)<;>simp only [nc]at q1
                                                       exfalso;omega;refine uW_ (w8_ vk vi vf) rfl rfl (VOK_lt (vM_ ..) rfl (vz_ rfl (λhz=>uX_ (bF λq=>hz0 hz (by first|omega|exact q.elim))) (λhz=>?_)));obtain ⟨z1,z2,z3⟩:=hz1 hz;repeat' first
                                                        |(refine b_ rfl rfl ?_ ?_<;>intro h<;>simp only [nc]at h<;>try omega)
                                                        |(refine uW_ hc rfl rfl (vz_ rfl ?_ ?_)<;>intro h<;>(first|replace h:=dT h|replace h:=dF h))
                                                        |(refine uW_ (c_ kd 6 12) rfl rfl (vz_ rfl ?_ ?_)<;>intro h<;>(first|replace h:=dT h|replace h:=dF h))
                                                        |(refine uW_ (c_ kd 2 5) rfl rfl (vz_ rfl ?_ ?_)<;>intro h<;>(first|replace h:=dT h|replace h:=dF h))
                                                        |(refine uW_ (c_ op 4 16) rfl rfl (vz_ rfl ?_ ?_)<;>intro h<;>(first|replace h:=dT h|replace h:=dF h))
                                                        |(refine uX_ (bF ?_);omega)
                                                        |exact uX_ (bF id)
                                                        |(refine VOK_lt (run_eql ..) rfl (uX_ (bE ?_));omega)
                                                        |(refine VOK_lt (run_eql ..) rfl (uX_ (bE ?_));dsimp only;omega)
                                                        |(refine VOK_lt (run_eql ..) rfl (uX_ (bE ?_));dsimp only;exact ⟨λq=>⟨z1,z2,z3,by omega,by omega,by omega,by omega,q⟩,λq=>q.2.2.2.2.2.2.2⟩)
                                                        |(refine uW_ hc rfl rfl (uX_ (bE ?_));omega)
                                                        |(refine uW_ hd rfl rfl (uX_ (bE ?_));omega)
                                                        |(refine uW_ (c_ n 1 8) rfl rfl (uX_ (bE ?_));omega)
                                                        |(refine uW_ (c_ n 2 5) rfl rfl (uX_ (bE ?_));omega)
                                                        |(refine uW_ (c_ kd 1 5) rfl rfl (uX_ (bE ?_));omega)
                                                        |(refine uW_ (c_ kd 1 1) rfl rfl (uX_ (bE ?_));omega)
                                                        |(refine uW_ (c_ kd 2 4) rfl rfl (uX_ (bE ?_));omega)
                                                        |(refine uW_ (c_ kd 2 5) rfl rfl (uX_ (bE ?_));omega)
                                                        |(refine uW_ (c_ kd (loI op) (hiI op)) rfl rfl (uX_ (bE ?_));omega)
                                                        |refine uW_ (w9_ kd) rfl rfl ?_
                                                        |refine uW_ (xa_ op) rfl rfl ?_)
 .obtain ⟨e1,e2⟩:=GQ_ h
  rw [decide_eq_decide.2 (Bz_ 1 1 (by omega) e1 e2)];(
                                                       refine b_ rfl rfl (λq1=>?_) (λq1=>?_)<;>simp only [nc]at q1
                                                       exfalso;omega;refine uW_ (w8_ vk vi vf) rfl rfl (VOK_lt (vM_ ..) rfl (vz_ rfl (λhz=>uX_ (bF λq=>hz0 hz (by first|omega|exact q.elim))) (λhz=>?_)));obtain ⟨z1,z2,z3⟩:=hz1 hz;repeat' first
                                                        |(refine b_ rfl rfl ?_ ?_<;>intro h<;>simp only [nc]at h<;>try omega)
                                                        |(refine uW_ hc rfl rfl (vz_ rfl ?_ ?_)<;>intro h<;>(first|replace h:=dT h|replace h:=dF h))
                                                        |(refine uW_ (c_ kd 6 12) rfl rfl (vz_ rfl ?_ ?_)<;>intro h<;>(first|replace h:=dT h|replace h:=dF h))
                                                        |(refine uW_ (c_ kd 2 5) rfl rfl (vz_ rfl ?_ ?_)<;>intro h<;>(first|replace h:=dT h|replace h:=dF h))
                                                        |(refine uW_ (c_ op 4 16) rfl rfl (vz_ rfl ?_ ?_)<;>intro h<;>(first|replace h:=dT h|replace h:=dF h))
                                                        |(refine uX_ (bF ?_);omega)
                                                        |exact uX_ (bF id)
                                                        |(refine VOK_lt (run_eql ..) rfl (uX_ (bE ?_));omega)
                                                        |(refine VOK_lt (run_eql ..) rfl (uX_ (bE ?_));dsimp only;omega)
                                                        |(refine VOK_lt (run_eql ..) rfl (uX_ (bE ?_));dsimp only;exact ⟨λq=>⟨z1,z2,z3,by omega,by omega,by omega,by omega,q⟩,λq=>q.2.2.2.2.2.2.2⟩)
                                                        |(refine uW_ hc rfl rfl (uX_ (bE ?_));omega)
                                                        |(refine uW_ hd rfl rfl (uX_ (bE ?_));omega)
                                                        |(refine uW_ (c_ n 1 8) rfl rfl (uX_ (bE ?_));omega)
                                                        |(refine uW_ (c_ n 2 5) rfl rfl (uX_ (bE ?_));omega)
                                                        |(refine uW_ (c_ kd 1 5) rfl rfl (uX_ (bE ?_));omega)
                                                        |(refine uW_ (c_ kd 1 1) rfl rfl (uX_ (bE ?_));omega)
                                                        |(refine uW_ (c_ kd 2 4) rfl rfl (uX_ (bE ?_));omega)
                                                        |(refine uW_ (c_ kd 2 5) rfl rfl (uX_ (bE ?_));omega)
                                                        |(refine uW_ (c_ kd (loI op) (hiI op)) rfl rfl (uX_ (bE ?_));omega)
                                                        |refine uW_ (w9_ kd) rfl rfl ?_
                                                        |refine uW_ (xa_ op) rfl rfl ?_)
 .have e1:loI op=2:=(by rw [h];rfl);have e2:hiI op=4:=(by rw [h];rfl)
  rw [decide_eq_decide.2 (Bz_ 2 4 (by omega) e1 e2)];(
                                                       refine b_ rfl rfl (λq1=>?_) (λq1=>?_)<;>simp only [nc]at q1
                                                       exfalso;omega;refine uW_ (w8_ vk vi vf) rfl rfl (VOK_lt (vM_ ..) rfl (vz_ rfl (λhz=>uX_ (bF λq=>hz0 hz (by first|omega|exact q.elim))) (λhz=>?_)));obtain ⟨z1,z2,z3⟩:=hz1 hz;repeat' first
                                                        |(refine b_ rfl rfl ?_ ?_<;>intro h<;>simp only [nc]at h<;>try omega)
                                                        |(refine uW_ hc rfl rfl (vz_ rfl ?_ ?_)<;>intro h<;>(first|replace h:=dT h|replace h:=dF h))
                                                        |(refine uW_ (c_ kd 6 12) rfl rfl (vz_ rfl ?_ ?_)<;>intro h<;>(first|replace h:=dT h|replace h:=dF h))
                                                        |(refine uW_ (c_ kd 2 5) rfl rfl (vz_ rfl ?_ ?_)<;>intro h<;>(first|replace h:=dT h|replace h:=dF h))
                                                        |(refine uW_ (c_ op 4 16) rfl rfl (vz_ rfl ?_ ?_)<;>intro h<;>(first|replace h:=dT h|replace h:=dF h))
                                                        |(refine uX_ (bF ?_);omega)
                                                        |exact uX_ (bF id)
                                                        |(refine VOK_lt (run_eql ..) rfl (uX_ (bE ?_));omega)
                                                        |(refine VOK_lt (run_eql ..) rfl (uX_ (bE ?_));dsimp only;omega)
                                                        |(refine VOK_lt (run_eql ..) rfl (uX_ (bE ?_));dsimp only;exact ⟨λq=>⟨z1,z2,z3,by omega,by omega,by omega,by omega,q⟩,λq=>q.2.2.2.2.2.2.2⟩)
                                                        |(refine uW_ hc rfl rfl (uX_ (bE ?_));omega)
                                                        |(refine uW_ hd rfl rfl (uX_ (bE ?_));omega)
                                                        |(refine uW_ (c_ n 1 8) rfl rfl (uX_ (bE ?_));omega)
                                                        |(refine uW_ (c_ n 2 5) rfl rfl (uX_ (bE ?_));omega)
                                                        |(refine uW_ (c_ kd 1 5) rfl rfl (uX_ (bE ?_));omega)
                                                        |(refine uW_ (c_ kd 1 1) rfl rfl (uX_ (bE ?_));omega)
                                                        |(refine uW_ (c_ kd 2 4) rfl rfl (uX_ (bE ?_));omega)
                                                        |(refine uW_ (c_ kd 2 5) rfl rfl (uX_ (bE ?_));omega)
                                                        |(refine uW_ (c_ kd (loI op) (hiI op)) rfl rfl (uX_ (bE ?_));omega)
                                                        |refine uW_ (w9_ kd) rfl rfl ?_
                                                        |refine uW_ (xa_ op) rfl rfl ?_)
 .obtain ⟨e1,e2⟩:=lo4 h
  rw [decide_eq_decide.2 (Bz_ 2 5 (by omega) e1 e2)];(
                                                       refine b_ rfl rfl (λq1=>?_) (λq1=>?_)<;>simp only [nc]at q1
                                                       exfalso;omega;refine uW_ (w8_ vk vi vf) rfl rfl (VOK_lt (vM_ ..) rfl (vz_ rfl (λhz=>uX_ (bF λq=>hz0 hz (by first|omega|exact q.elim))) (λhz=>?_)));obtain ⟨z1,z2,z3⟩:=hz1 hz;repeat' first
                                                        |(refine b_ rfl rfl ?_ ?_<;>intro h<;>simp only [nc]at h<;>try omega)
                                                        |(refine uW_ hc rfl rfl (vz_ rfl ?_ ?_)<;>intro h<;>(first|replace h:=dT h|replace h:=dF h))
                                                        |(refine uW_ (c_ kd 6 12) rfl rfl (vz_ rfl ?_ ?_)<;>intro h<;>(first|replace h:=dT h|replace h:=dF h))
                                                        |(refine uW_ (c_ kd 2 5) rfl rfl (vz_ rfl ?_ ?_)<;>intro h<;>(first|replace h:=dT h|replace h:=dF h))
                                                        |(refine uW_ (c_ op 4 16) rfl rfl (vz_ rfl ?_ ?_)<;>intro h<;>(first|replace h:=dT h|replace h:=dF h))
                                                        |(refine uX_ (bF ?_);omega)
                                                        |exact uX_ (bF id)
                                                        |(refine VOK_lt (run_eql ..) rfl (uX_ (bE ?_));omega)
                                                        |(refine VOK_lt (run_eql ..) rfl (uX_ (bE ?_));dsimp only;omega)
                                                        |(refine VOK_lt (run_eql ..) rfl (uX_ (bE ?_));dsimp only;exact ⟨λq=>⟨z1,z2,z3,by omega,by omega,by omega,by omega,q⟩,λq=>q.2.2.2.2.2.2.2⟩)
                                                        |(refine uW_ hc rfl rfl (uX_ (bE ?_));omega)
                                                        |(refine uW_ hd rfl rfl (uX_ (bE ?_));omega)
                                                        |(refine uW_ (c_ n 1 8) rfl rfl (uX_ (bE ?_));omega)
                                                        |(refine uW_ (c_ n 2 5) rfl rfl (uX_ (bE ?_));omega)
                                                        |(refine uW_ (c_ kd 1 5) rfl rfl (uX_ (bE ?_));omega)
                                                        |(refine uW_ (c_ kd 1 1) rfl rfl (uX_ (bE ?_));omega)
                                                        |(refine uW_ (c_ kd 2 4) rfl rfl (uX_ (bE ?_));omega)
                                                        |(refine uW_ (c_ kd 2 5) rfl rfl (uX_ (bE ?_));omega)
                                                        |(refine uW_ (c_ kd (loI op) (hiI op)) rfl rfl (uX_ (bE ?_));omega)
                                                        |refine uW_ (w9_ kd) rfl rfl ?_
                                                        |refine uW_ (xa_ op) rfl rfl ?_)
 .rw [decide_eq_decide.2 (GU_ h)];(
                                    refine b_ rfl rfl (λq1=>?_) (λq1=>?_)<;>simp only [nc]at q1
                                    exfalso;omega;refine uW_ (w8_ vk vi vf) rfl rfl (VOK_lt (vM_ ..) rfl (vz_ rfl (λhz=>uX_ (bF λq=>hz0 hz (by first|omega|exact q.elim))) (λhz=>?_)));obtain ⟨z1,z2,z3⟩:=hz1 hz;repeat' first
                                     |(refine b_ rfl rfl ?_ ?_<;>intro h<;>simp only [nc]at h<;>try omega)
                                     |(refine uW_ hc rfl rfl (vz_ rfl ?_ ?_)<;>intro h<;>(first|replace h:=dT h|replace h:=dF h))
                                     |(refine uW_ (c_ kd 6 12) rfl rfl (vz_ rfl ?_ ?_)<;>intro h<;>(first|replace h:=dT h|replace h:=dF h))
                                     |(refine uW_ (c_ kd 2 5) rfl rfl (vz_ rfl ?_ ?_)<;>intro h<;>(first|replace h:=dT h|replace h:=dF h))
                                     |(refine uW_ (c_ op 4 16) rfl rfl (vz_ rfl ?_ ?_)<;>intro h<;>(first|replace h:=dT h|replace h:=dF h))
                                     |(refine uX_ (bF ?_);omega)
                                     |exact uX_ (bF id)
                                     |(refine VOK_lt (run_eql ..) rfl (uX_ (bE ?_));omega)
                                     |(refine VOK_lt (run_eql ..) rfl (uX_ (bE ?_));dsimp only;omega)
                                     |(refine VOK_lt (run_eql ..) rfl (uX_ (bE ?_));dsimp only;exact ⟨λq=>⟨z1,z2,z3,by omega,by omega,by omega,by omega,q⟩,λq=>q.2.2.2.2.2.2.2⟩)
                                     |(refine uW_ hc rfl rfl (uX_ (bE ?_));omega)
                                     |(refine uW_ hd rfl rfl (uX_ (bE ?_));omega)
                                     |(refine uW_ (c_ n 1 8) rfl rfl (uX_ (bE ?_));omega)
                                     |(refine uW_ (c_ n 2 5) rfl rfl (uX_ (bE ?_));omega)
                                     |(refine uW_ (c_ kd 1 5) rfl rfl (uX_ (bE ?_));omega)
                                     |(refine uW_ (c_ kd 1 1) rfl rfl (uX_ (bE ?_));omega)
                                     |(refine uW_ (c_ kd 2 4) rfl rfl (uX_ (bE ?_));omega)
                                     |(refine uW_ (c_ kd 2 5) rfl rfl (uX_ (bE ?_));omega)
                                     |(refine uW_ (c_ kd (loI op) (hiI op)) rfl rfl (uX_ (bE ?_));omega)
                                     |refine uW_ (w9_ kd) rfl rfl ?_
                                     |refine uW_ (xa_ op) rfl rfl ?_)
def zY_ (k:Int):Int:=if 1<=k/\k<=5 then 1 else if 6<=k/\k<=8 then 4 else if k=9\/k=10 then 3 else if k=11\/k=12 then 2 else 0
structure WG where
 N:Nat
 tk:Nat->Nat
 lv:Nat->Nat
 goes:Nat->List Nat
structure WG.Ok (g:WG):Prop where
 pos:0<g.N
 inn:∀a,a<g.N->∀b∈g.goes a,b<g.N
 two:∀a,(g.goes a).length<=2
def WG.full (g:WG) (w:Nat×Nat):Bool:=decide (w.2<g.tk w.1)||decide (16<w.2-g.tk w.1+g.lv w.1)
def WG.hi (g:WG) (w:Nat×Nat):Nat:=w.2-g.tk w.1+g.lv w.1
def WG.nxt (g:WG) (w:Nat×Nat):List (Nat×Nat):=if g.full w=true then []else (g.goes w.1).map λb=>(b,g.hi w)
inductive WG.Reach (g:WG):Nat×Nat->Prop
 |zero:WG.Reach g (0,0)
 |step {w w':Nat×Nat}:WG.Reach g w->w'∈g.nxt w->WG.Reach g w'
variable {g:WG}
theorem WG.nxt_hi {w w':Nat×Nat} (h:w'∈g.nxt w):g.full w=false/\w'.2=g.hi w/\w'.1∈g.goes w.1/\g.hi w<=16:=by unfold WG.nxt at h;split at h;cases h;rename_i hf;obtain ⟨b,hb,rfl⟩:=List.mem_map.1 h;have hf:g.full w=false:=(by simpa using hf);refine ⟨hf,rfl,hb,?_⟩;unfold WG.full at hf;simp only [Bool.or_eq_false_iff,decide_eq_false_iff_not]at hf;have:=hf.2;unfold WG.hi;omega
theorem WG.nxt_in (hg:g.Ok) {w w':Nat×Nat} (hw:w.1<g.N) (h:w'∈g.nxt w):w'.1<g.N/\w'.2<=16:=by obtain ⟨_,h1,h2,h3⟩:=WG.nxt_hi h;exact ⟨hg.inn _ hw _ h2,by omega⟩
theorem WG.nxt_two (hg:g.Ok) (w:Nat×Nat):(g.nxt w).length<=2:=by unfold WG.nxt;split;simp;rw [List.length_map];exact hg.two _
def wun (S:Nat->Bool):Nat->Nat
 |0=>0
 |n+1=>wun S n+(if S n=true then 0 else 1)
def yJ_ (S:Nat->Bool) (i:Nat):Nat->Bool:=λj=>S j||decide (j=i)
theorem yI_ (S:Nat->Bool) (i:Nat):∀n,n<=i->wun (yJ_ S i) n=wun S n
 |0,_=>rfl
 |n+1,h=>by have e:¬n=i:=(by omega);simp only [wun,yI_ S i n (by omega),yJ_,e,decide_false,Bool.or_false]
theorem Bi_ (S:Nat->Bool) (i:Nat) (hs:S i=false):∀n,i<n->wun (yJ_ S i) n+1=wun S n
 |0,h=>by omega
 |n+1,h=>by by_cases e:n=i;subst e;simp only [wun,yI_ S n n (Nat.le_refl _),yJ_,hs];simp;have:=Bi_ S i hs n (by omega);have e2:yJ_ S i n=S n:=(by simp [yJ_,e]);simp only [wun,e2];omega
theorem Bh_ (S:Nat->Bool):∀n,wun S n<=n
 |0=>Nat.le_refl _
 |n+1=>by have:=Bh_ S n;simp only [wun];split<;>omega
theorem x6_ {S S':Nat->Bool}:∀n,(∀i,i<n->S i=S' i)->wun S n=wun S' n
 |0,_=>rfl
 |n+1,h=>by simp only [wun,h n (by omega),x6_ n λi hi=>h i (by omega)]
def xD_ (s:List (Nat×Nat)) (k:Nat):Bool:=decide ((k/17,k%17)∈s)
def left (g:WG) (s:List (Nat×Nat)):Nat:=wun (xD_ s) (17*g.N)
theorem xB_ {s:List (Nat×Nat)} {w:Nat×Nat} (h1:w.1<g.N) (h2:w.2<=16) (hn:w∉s):left g (s++[w])+1=left g s:=by
 have hk:(w.1*17+w.2)/17=w.1/\(w.1*17+w.2)%17=w.2:=by omega
 have he:wun (xD_ (s++[w])) (17*g.N)=wun (yJ_ (xD_ s) (w.1*17+w.2)) (17*g.N):=x6_ _ λi hi=>by unfold xD_ yJ_;by_cases hm:(i/17,i%17)∈s;simp [hm];have:((i/17,i%17)=w)↔i=w.1*17+w.2:=(by constructor;intro h;have a:=congrArg Prod.fst h;have b:=congrArg Prod.snd h;simp only at a b;omega;intro h;obtain ⟨x,y⟩:=w;simp only at h hk;subst h;exact Prod.ext hk.1 hk.2);by_cases hi':i=w.1*17+w.2;rw [this.2 hi',decide_eq_true hi'];simp;have hne:¬(i/17,i%17)=w:=λh=>hi' (this.1 h);simp [hm,hne,hi']
 unfold left;rw [he];refine Bi_ _ _ ?_ _ (by omega);unfold xD_;rw [hk.1,hk.2];simpa using hn
theorem zl_ (g:WG) (s:List (Nat×Nat)):left g s<=17*g.N:=Bh_ _ _
structure Srch (g:WG) (s t:List (Nat×Nat)):Prop where
 nd:s.Nodup
 rs:∀w∈s,g.Reach w/\w.1<g.N/\w.2<=16
 rt:∀w∈t,g.Reach w/\w.1<g.N/\w.2<=16
 z:(0,0)∈s\/(0,0)∈t
 cl:∀w∈s,∀w'∈g.nxt w,w'∈s\/w'∈t
 lt:t.length+2*left g s<=1+34*g.N
theorem Srch.begin (hg:g.Ok):Srch g [] [(0,0)] where
 nd:=List.nodup_nil
 rs:=λw h=>(za' h).elim
 rt:=λw h=>by rw [List.mem_singleton.1 h];exact ⟨.zero,hg.pos,zb' _⟩
 z:=.inr (List.mem_singleton.2 rfl)
 cl:=λw h=>(za' h).elim
 lt:=by have:=zl_ g [];simp only [List.length_singleton];omega
theorem Srch.seen {s t t':List (Nat×Nat)} {w:Nat×Nat} (h:Srch g s t) (ht:∀v,v∈t↔v=w\/v∈t') (hl:t'.length+1=t.length) (hw:w∈s):Srch g s t' where
 nd:=h.nd
 rs:=h.rs
 rt:=λv hv=>h.rt v ((ht v).2 (.inr hv))
 z:=h.z.elim .inl λh0=>((ht _).1 h0).elim (λe=>.inl (e▸hw)) .inr
 cl:=λv hv v' hv'=>(h.cl v hv v' hv').elim .inl λh0=>((ht _).1 h0).elim (λe=>.inl (e▸hw)) .inr
 lt:=by have:=h.lt;omega
theorem Srch.fresh (hg:g.Ok) {s t t' t2:List (Nat×Nat)} {w:Nat×Nat} (h:Srch g s t) (ht:∀v,v∈t↔v=w\/v∈t') (hl:t'.length+1=t.length) (hw:w∉s)
  (ht2:∀v,v∈t2↔v∈t'\/v∈g.nxt w) (hl2:t2.length=t'.length+(g.nxt w).length):Srch g (s++[w]) t2/\2*left g (s++[w])+t2.length<2*left g s+t.length:=by
 have hwt:g.Reach w/\w.1<g.N/\w.2<=16:=h.rt w ((ht w).2 (.inl rfl));have hls:=xB_ (s:=s) hwt.2.1 hwt.2.2 hw;have h2:=WG.nxt_two hg w;have hlt:=h.lt;refine ⟨⟨?_,?_,?_,?_,?_,?_⟩,by omega⟩;rw [List.nodup_append];refine ⟨h.nd,by simp,?_⟩;intro a ha b hb e;rw [List.mem_singleton.1 hb]at e;exact hw (e▸ha);intro v hv;rcases List.mem_append.1 hv with hv|hv;exact h.rs v hv;rw [List.mem_singleton.1 hv];exact hwt;intro v hv;rcases (ht2 v).1 hv with hv|hv;exact h.rt v ((ht v).2 (.inr hv));exact ⟨.step hwt.1 hv,WG.nxt_in hg hwt.2.1 hv⟩;rcases h.z with h0|h0;exact .inl (ze' _ h0);rcases (ht _).1 h0 with e|h0;exact .inl (zf' _ (List.mem_singleton.2 e));exact .inr ((ht2 _).2 (.inl h0));intro v hv v' hv';rcases List.mem_append.1 hv with hv|hv;rcases h.cl v hv v' hv' with h0|h0;exact .inl (ze' _ h0);rcases (ht _).1 h0 with e|h0;exact .inl (zf' _ (List.mem_singleton.2 e));exact .inr ((ht2 _).2 (.inl h0));rw [List.mem_singleton.1 hv]at hv';exact .inr ((ht2 _).2 (.inr hv'));omega
theorem At_:∀(s:List (Nat×Nat)),s.Nodup->(∀w∈s,w.1<g.N/\w.2<=16)->left g s+s.length<=17*g.N:=by
 intro s;generalize hn:s.length=n
 induction n generalizing s with
 |zero=>intro _ _;exact zl_ g s
 |succ n ih=>intro hd hin;have hne:s≠[]:=λe=>(by rw [e]at hn;cases hn);have e:=(List.dropLast_concat_getLast hne).symm;generalize s.dropLast=r at e;generalize s.getLast hne=w at e;subst e;rw [List.nodup_append]at hd;have hw:w∉r:=λh=>hd.2.2 w h w (List.mem_singleton.2 rfl) rfl;have h1:=hin w (zf' _ (List.mem_singleton.2 rfl));have:=xB_ (g:=g) h1.1 h1.2 hw;have hl:r.length=n:=(by rw [List.length_append]at hn;simp at hn;omega);have:=ih r hl hd.1 λv hv=>hin v (ze' _ hv);omega
theorem Srch.len_le {s t:List (Nat×Nat)} (h:Srch g s t):s.length<=17*g.N:=by have:=At_ s h.nd λw hw=>(h.rs w hw).2;omega
theorem Srch.all {s:List (Nat×Nat)} (h:Srch g s []) {w:Nat×Nat} (hr:g.Reach w):w∈s:=by
 induction hr with
 |zero=>exact h.z.elim id λh0=>(za' h0).elim
 |step _ hw ih=>exact (h.cl _ ih _ hw).elim id λh0=>(za' h0).elim
def WG.Full (g:WG):Prop:=∃w,g.Reach w/\g.full w=true
def WG.Two (g:WG):Prop:=∃a h h',g.Reach (a,h)/\g.Reach (a,h')/\h≠h'
def I_ (g:WG) (s:List (Nat×Nat)):Bool:=s.any g.full
def cnt (s:List (Nat×Nat)) (a:Nat):Nat:=s.countP λw=>w.1==a
def C_ (s:List (Nat×Nat)):Bool:=s.any λw=>decide (1<cnt s w.1)
theorem Bq_ {s:List (Nat×Nat)} (hn:s.Nodup) {a h h':Nat} (h1:(a,h)∈s) (h2:(a,h')∈s) (hne:h≠h'):1<cnt s a:=by
 induction s with
 |nil=>cases h1
 |cons x s ih=>
  rw [List.nodup_cons]at hn;have one:∀{k},(a,k)∈s->0<cnt s a:=λhk=>List.countP_pos_iff.2 ⟨_,hk,by simp⟩;unfold cnt;rw [List.countP_cons];rcases List.mem_cons.1 h1 with e1|m1<;>rcases List.mem_cons.1 h2 with e2|m2
  exact absurd (congrArg Prod.snd (e1.trans e2.symm)) hne;have:=one m2;unfold cnt at this;subst e1;simp only [BEq.rfl,if_true];omega;have:=one m1;unfold cnt at this;subst e2;simp only [BEq.rfl,if_true];omega;have:=ih hn.2 m1 m2;unfold cnt at this;omega
theorem BZ_ {s:List (Nat×Nat)} (hn:s.Nodup) {a:Nat} (h:1<cnt s a):∃k k',(a,k)∈s/\(a,k')∈s/\k≠k':=by
 induction s with
 |nil=>simp [cnt]at h
 |cons x s ih=>rw [List.nodup_cons]at hn;unfold cnt at h;rw [List.countP_cons]at h;by_cases hx:x.1=a;have h0:0<s.countP λw=>w.1==a:=(by have:(x.1==a)=true:=(by simp [hx]);rw [if_pos this]at h;omega);obtain ⟨y,hy,hya⟩:=List.countP_pos_iff.1 h0;have hya:y.1=a:=(by simpa using hya);refine ⟨x.2,y.2,?_,?_,?_⟩;rw [←hx];exact zg' ..;rw [←hya];exact zc' _ hy;intro e;have:x=y:=Prod.ext (hx.trans hya.symm) e;exact hn.1 (this▸hy);have:¬((x.1==a)=true):=(by simpa using hx);rw [if_neg this]at h;obtain ⟨k,k',h1,h2,h3⟩:=ih hn.2 (by unfold cnt;omega);exact ⟨k,k',zc' _ h1,zc' _ h2,h3⟩
theorem Srch.full {s:List (Nat×Nat)} (h:Srch g s []):I_ g s=true↔g.Full:=by unfold I_;rw [List.any_eq_true];exact ⟨λ⟨w,h1,h2⟩=>⟨w,(h.rs w h1).1,h2⟩,λ⟨w,h1,h2⟩=>⟨w,h.all h1,h2⟩⟩
theorem Srch.two {s:List (Nat×Nat)} (h:Srch g s []):C_ s=true↔g.Two:=by unfold C_;rw [List.any_eq_true];constructor;rintro ⟨w,h1,h2⟩;obtain ⟨k,k',m1,m2,hne⟩:=BZ_ h.nd (by simpa using h2);exact ⟨w.1,k,k',(h.rs _ m1).1,(h.rs _ m2).1,hne⟩;rintro ⟨a,k,k',m1,m2,hne⟩;exact ⟨(a,k),h.all m1,by simpa using Bq_ h.nd (h.all m1) (h.all m2) hne⟩
theorem wN_ {s:List (Nat×Nat)} {w:Nat×Nat}:C_ (s++[w])=(C_ s||decide (1<cnt s w.1+1)):=by
 have hc:∀a,cnt (s++[w]) a=cnt s a+(if w.1=a then 1 else 0):=λa=>by unfold cnt;rw [List.countP_append,List.countP_singleton];by_cases h:w.1=a<;>simp [h]
 apply Bool.eq_iff_iff.2;unfold C_;simp only [List.any_append,List.any_cons,List.any_nil,Bool.or_false,Bool.or_eq_true,List.any_eq_true,decide_eq_true_eq,hc,if_true];constructor;rintro (⟨v,h1,h2⟩|h2);by_cases e:w.1=v.1;rw [if_pos e]at h2;right;rw [e];exact h2;rw [if_neg e]at h2;exact .inl ⟨v,h1,h2⟩;exact .inr h2;rintro (⟨v,h1,h2⟩|h2);exact .inl ⟨v,h1,by omega⟩;exact .inr h2
theorem P_ {s:List (Nat×Nat)} {w:Nat×Nat}:I_ g (s++[w])=(I_ g s||g.full w):=by unfold I_;simp
def x_ (op:Int):Int:=if 18<=op/\op<=23 then 0 else 1
theorem Hu_ {a b c d:Int} (h:a=c) (h':b=d):AV.tup [.int .i64 a,.int .i64 b]=.tup [.int .i64 c,.int .i64 d]:=by rw [h,h']
def FR_:VC:=⟨⟨[],[]⟩,[],[],0,true,[]⟩
def EH_:VT:=Iq 64 9 65 (.done (J 3))<|Iq 64 10 66 (.done (J 3))<|Iq 64 11 67 (.done (J 2))<|Iq 64 12 68 (.done (J 2))<|.done (J 4)
def c65:VC:=⟨⟨[],[]⟩,[(112,[none])],[],0,true,[]⟩
def t65:VT:=Iq 66 2 73 (Li Z7 [68,65] 74<|.done (74))<|Iq 66 18 74 (Li Z7 [68,65] 75<|.done (75))<|Iq 66 3 75 (Li Qr [68,69] 76<|Li Zu [76,65] 77<|.done (77))<|Iq 66 19 76 (Li Qr [68,69] 77<|Li Zu [77,65] 78<|.done (78))<|Iq 66 22 77 (.call 112 [67] 78 [none]<|Li Qr [68,78] 79<|Li Zu [79,65] 80<|.done (80))<|Iq 66 20 78 (Li Qi [64] 79<|Li Z7 [68,79] 80<|.done (80))<|Iq 66 21 79 (Li Qi [64] 80<|Li Z7 [68,80] 81<|.done (81))<|.done (.bool false)
def c62:VC:=⟨⟨[],[]⟩,[(63,[none])],[],0,true,[]⟩
def t62:VT:=.call 63 [.agg [64,65,66,67,68,69,70]] 71 [none]<|Li Q6 [71] 72<|.done (72)
def Gu_:VC:=⟨⟨[],[]⟩,[(65,[none])],[],0,true,[]⟩
def Fm_:VT:=.call 65 [71,72,.agg [64,65,66,67,68,69,70]] 73 [none]<|.done (73)
def cI1a:VC:=⟨⟨[],[]⟩,[(62,[none])],[(0,[⟨[(8,.slx 0 0 0),(0,64),(1,.fn 62 []),(7,65)],[],0,1,[],[],[]⟩])],0,true,[]⟩
def Fk_:VT:=Li Qi [64] 65<|.loop 66 0 [J 0] (.cons 1 (It Q5 [66,65] 67 (Li Qk [64,66] 68<|.lt Qy [68] 69 (some 7)<|.call 62 [.agg [69,70,71,72,73,74,75]] 76 [none]<|.ite 76 (.done (66))<|Li Q3 [66,J 1] 77<|.again 0 0 [77])<|.done (.int .i64 (-1))) .nil)
def cI2b:VC:=⟨⟨[],[]⟩,[(64,[none])],[(0,[⟨[(8,.slx 0 0 0),(0,64),(1,.fn 64 [.vptr [65],.vptr [66]]),(7,67)],[],0,1,[],[],[]⟩])],0,true,[]⟩
def Fl_:VT:=Li Qi [64] 67<|.loop 68 0 [J 0] (.cons 1 (It Q5 [68,67] 69 (Li Qk [64,68] 70<|.lt Qy [70] 71 (some 7)<|.call 64 [.agg [71,72,73,74,75,76,77],.vptr [65],.vptr [66]] 78 [none]<|.ite 78 (.done (68))<|Li Q3 [68,J 1] 79<|.again 0 0 [79])<|.done (.int .i64 (-1))) .nil)
def Gs_:VC:=⟨⟨[],[]⟩,[(104,[none])],[],0,true,[]⟩
def Fi_:VT:=.call 104 [64,.fn 62 []] 65 [none]<|Li Q4 [65,J 0] 66<|.done (66)
def Gt_:VC:=⟨⟨[],[]⟩,[(104,[none])],[],0,true,[]⟩
def Fj_:VT:=.call 104 [64,.fn 64 [.vptr [65],.vptr [66]]] 67 [none]<|Li Q4 [67,J 0] 68<|.done (68)
def FS_:VC:=⟨⟨[],[]⟩,[],[],0,true,[]⟩
def EI_:VT:=Iq 64 1 71 (Dn [J 1])<|Iq 64 2 72 (Dn [J 1])<|Iq 64 3 73 (.done (.tup [J 1,J 1]))<|Iq 64 17 74 (.done (.tup [J 1,J 1]))<|Iq 64 15 75 (.done (.tup [J 1,J 1]))<|Iq 64 16 76 (.done (.tup [J 1,J 1]))<|Iq 64 18 77 (.done (.tup [J 1,J 0]))<|Iq 64 21 78 (.done (.tup [J 1,J 0]))<|Iq 64 19 79 (.done (.tup [J 2,J 0]))<|Iq 64 22 80 (.done (.tup [67,J 0]))<|Iq 64 20 81 (Dn [J 0])<|Iq 64 23 82 (Dn [J 0])<|.done (.tup [J 2,J 1])
def FT_:VC:=⟨⟨[],[]⟩,[],[],0,true,[]⟩
def EJ_:VT:=Iq 64 23 72 (.done (.nsl))<|Iq 64 20 73 (.done (.vsl 1 1 [66]))<|Iq 64 21 74 (Li Q3 [71,J 1] 75<|.done (.vsl 2 1 [66,75]))<|Li Q3 [71,J 1] 75<|.done (.vsl 1 1 [75])
def GI.May (g:GI):Prop:=vr_ g.op g.kd g.ad g.n g.vk g.vi g.vf
instance (g:GI):Decidable g.May:=by unfold GI.May;infer_instance
def z4_ (op kd ad n len cells:Int):Prop:=(op=2\/op=18->ad<cells)/\(op=3\/op=19->ad+n<=cells)/\(op=22->ad+zY_ kd<=cells)/\(op=20\/op=21->ad<len)
instance (op kd ad n len cells:Int):Decidable (z4_ op kd ad n len cells):=by unfold z4_;infer_instance
def GI.Plc (g:GI) (len:Nat) (cells:Int):Prop:=z4_ g.op g.kd g.ad g.n len cells
instance (g:GI) (len:Nat) (cells:Int):Decidable (g.Plc len cells):=by unfold GI.Plc;infer_instance
theorem tf_ {op kd ad n vk vi:Int} {vf:Nat} (h:vr_ op kd ad n vk vi vf):1<=op/\op<=23/\0<=ad/\ad<=399/\0<=n/\n<=8/\(op=22->6<=kd/\kd<=12):=by unfold vr_ at h;rcases h with h|⟨h0,_,_,_,h⟩;omega;omega
def B5_ (k:Int):Int:=if k=9\/k=10 then 3 else if k=11\/k=12 then 2 else 4
theorem G5_ (k:Int):jD_ Tryz.prog 112 [.int .i64 k] (.int .i64 (B5_ k)):=by
 refine uk_ (sh:=[none]) (ls:=[.int .i64 k]) (c:=FR_) (n:=300) (t:=EH_) mo ov rfl rfl rfl (λY _=>vX_ _) rfl (by kernel_rfl) λY hf hg=>?_;unfold EH_;repeat' (refine b_ rfl rfl ?_ ?_<;>intro h<;>simp only [nc]at h<;>try omega)
 all_goals exact uX_ (iK (by unfold B5_;(repeat' split)<;>omega))
theorem Dh_ {k:Int} (h:6<=k/\k<=12):B5_ k=zY_ k:=by
 unfold B5_ zY_
 (repeat' split)<;>omega
theorem Di_ (k:Int):0<=zY_ k/\zY_ k<=4:=by
 unfold zY_
 (repeat' split)<;>omega
theorem xZ_ {l:List GI} {x:AV} (h:SlV l_ 7 l x):(XOp.len 30).run Tryz.prog [x]=some (.int .i64 (l.length:Int)):=h.len Tryz.underlying30
theorem p65 {l:List GI} {x:AV} (hx:SlV l_ 7 l x) (cells:Int) {g:GI} (hm:g.May):jD_ Tryz.prog 65 [x,.int .i64 cells,.agg (l_ g)] (.bool (decide (¬g.Plc l.length cells))):=by
 obtain ⟨op,kd,ad,n,vk,vi,vf⟩:=g;have hb:1<=op/\op<=23/\0<=ad/\ad<=399/\0<=n/\n<=8/\(op=22->6<=kd/\kd<=12):=tf_ hm;have okx:=hx.ok okG;refine uk_ (sh:=[none,none,some 7]) (ls:=[x,.int .i64 cells]++l_ ⟨op,kd,ad,n,vk,vi,vf⟩) (c:=c65) (n:=300) (t:=t65) mo ov (by rcases hx with rfl|⟨_,rfl⟩<;>rfl) (by simp only [List.cons_append,List.nil_append,l_,okL,okC,okx]) rfl (λY _=>vX_ _) rfl (by kernel_rfl) λY hf hg=>?_;show VOK _ (· =AV.bool (decide (¬z4_ op kd ad n l.length cells))) _ _ _;have hw:=Di_ kd;have hwb:=λh22:op=22=>Dh_ (k:=kd) (hb.2.2.2.2.2.2 h22);unfold t65 z4_;repeat' first
  |(refine b_ rfl rfl ?_ ?_<;>intro h<;>simp only [nc]at h<;>try omega)
  |(refine uX_ (bF ?_);(first|omega|(dsimp only;omega)))
  |(refine VOK_lt (run_geq ..) rfl (uX_ (bE ?_));(first|omega|(dsimp only;omega)))
  |(refine VOK_lt (run_gtr ..) rfl (uX_ (bE ?_));(first|omega|(dsimp only;omega)))
  |refine VOK_lt (xZ_ hx) rfl ?_
  |refine uW_ (G5_ kd) rfl rfl ?_
  |refine VOK_lt (q_ (by first|omega|(dsimp only;omega)) (by first|omega|(dsimp only;omega))) rfl ?_
theorem p62 (g:GI):jD_ Tryz.prog 62 [.agg (l_ g)] (.bool (!decide g.May)):=by refine uk_ (sh:=[some 7]) (ls:=l_ g) (c:=c62) (n:=300) (t:=t62) mo ov rfl (okG _) rfl (λY _=>vX_ _) rfl (by kernel_rfl) λY hf hg=>?_;exact uW_ (p63 g) rfl rfl (VOK_lt (vM_ ..) rfl (uX_ rfl))
theorem p64 {l:List GI} {x:AV} (hx:SlV l_ 7 l x) (cells:Int) {g:GI} (hm:g.May):jD_ Tryz.prog 64 [.agg (l_ g),.vptr [x],.vptr [.int .i64 cells]] (.bool (decide (¬g.Plc l.length cells))):=by have okx:=hx.ok okG;refine vj_ (args':=[.agg (ak_ 64 7),.vptr [.sym 71],.vptr [.sym 72]]) (ls:=l_ g++[x,.int .i64 cells]) (c:=Gu_) (n:=300) (m:=73) (t:=Fm_) mo ov (by simp only [mO_,Sx.okI,okL,okC,okx,l_]) rfl (by simp only [List.cons_append,List.nil_append,l_,okL,okC,okx]) rfl (λY hf=>rfl) (λY _=>vX_ _) rfl (by kernel_rfl) λY hf hg=>?_;unfold Fm_;exact uW_ (p65 hx cells hm) rfl (by simp only [okL,okC,Sx.okI,okx,l_]) (uX_ rfl)
theorem L_:∀{a:AV},okC a=true->Sx.okI a=true
 | .bool _,_| .int _ _,_| .flt _ _,_| .nan _,_| .str _,_| .nptr,_| .nsl,_| .nmap,_| .nfn,_| .nif,_=>rfl
 | .vptr _,h| .vsl _ _ _,h| .fn _ _,h| .iface _ _,h=>h
def ye_ (p:GI->Bool) (l:List GI):Int:=match l.findIdx? p with
 |some i=>(i:Int)
 |none=> -1
theorem zb_ (p:GI->Bool) (l:List GI):0<=ye_ p l↔∃g∈l,p g=true:=by
 unfold ye_;cases h:l.findIdx? p with
 |none=>rw [List.findIdx?_eq_none_iff]at h;constructor;intro h;have h:(0:Int)<= -1:=h;omega;rintro ⟨g,hg,hp⟩;rw [h g hg]at hp;cases hp
 |some i=>rw [List.findIdx?_eq_some_iff_getElem]at h;obtain ⟨hi,hp,_⟩:=h;exact ⟨λ_=>⟨l[i],zd' hi,hp⟩,λ_=>by show (0:Int)<=(i:Int);omega⟩
theorem za_ {p:GI->Bool} {l:List GI} {i:Nat} (hi:i<l.length) (h0:∀j (h:j<l.length),j<i->p l[j]=false) (h1:p l[i]=true):ye_ p l=i:=by have:l.findIdx? p=some i:=List.findIdx?_eq_some_iff_getElem.2 ⟨hi,h1,λj hj=>by rw [h0 j (by omega) hj];decide⟩;unfold ye_;rw [this]
theorem xw_ {p:GI->Bool} {l:List GI} (h0:∀j (h:j<l.length),p l[j]=false):ye_ p l= -1:=by
 have:l.findIdx? p=none:=List.findIdx?_eq_none_iff.2 λg hg=>by obtain ⟨j,hj,rfl⟩:=List.mem_iff_getElem.1 hg;exact h0 j hj
 unfold ye_;rw [this]
theorem iaI {l:List GI} {x:AV} (hx:SlV l_ 7 l x) {i:Nat} (h:i<l.length):(XOp.iaddr 30).run Tryz.prog [x,.int .i64 (i:Int)]=some (.vptr (bi_ l_ (l.drop i))):=hx.ia (e:=68) Tryz.underlying30 (ti:=(Tryz.prog.info? 68).get!) (by kernel_rfl) (by kernel_rfl) xY_ h .i64
theorem ldI {l:List GI} {i:Nat} (h:i<l.length):(XOp.load 68).run Tryz.prog [.vptr (bi_ l_ (l.drop i))]=some (.agg (l_ l[i])):=run_load_agg (ti:=(Tryz.prog.info? 68).get!) Tryz.underlying68 rfl (by kernel_rfl) (by kernel_rfl) xY_ h
theorem yn_ (l:List GI) (i:Nat):okC (.vptr (bi_ l_ (l.drop i)))=true:=kY_ okG _
theorem I1 {l:List GI} {x:AV} (hx:SlV l_ 7 l x) (hl:l.length<=1000000):jD_ Tryz.prog 104 [x,.fn 62 []] (.int .i64 (ye_ (λg=> !decide g.May) l)):=by
 have okx:=hx.ok okG;refine vj_ (args':=[.sym 64,.fn 62 []]) (ls:=[x]) (c:=cI1a) (n:=300) (m:=65) (t:=Fk_) mo ov (by simp only [mO_,L_ okx,Sx.okI,okL]) rfl (by simp only [okL,okx]) rfl (λY hf=>rfl) (λY _=>vX_ _) rfl (by kernel_rfl) λY hf hg=>?_;unfold Fk_;refine VOK_lt (xZ_ hx) rfl ?_;refine uY_ (ι:=Nat) (λi=>[.int .i64 (i:Int)]) (λi=>i<=l.length/\∀j (h:j<l.length),j<i->(!decide (l[j].May))=false) (λi=>l.length-i) 0 ⟨zb' _,λj _ h=>by omega⟩ rfl (λ_ _=>rfl) (λi j _ _ h=>?_) (λi hi=>?_)
 .have h:=(List.cons.inj h).1;injection h with _ h
  omega
 obtain ⟨hi,h0⟩:=hi;refine VOK_lt (run_lss ..) rfl (vz_ rfl (λhlt=>?_) (λhlt=>uX_ (congrArg (AV.int .i64) (xw_ λj hj=>h0 j hj ?_).symm)));have hlt:(i:Int)<(l.length:Int):=dT hlt;have hlt:i<l.length:=(by omega);refine VOK_lt (iaI hx hlt) (yn_ l i) (vA_ (ldI hlt) rfl (okG _) (uW_ (p62 l[i]) rfl rfl (vz_ rfl (λhm=>uX_ (congrArg (AV.int .i64) (za_ hlt h0 hm).symm)) (λhm=>VOK_lt (run_add ..) rfl (uJ_ rfl ⟨i+1,⟨hlt,λj hj hji=>?_⟩,?_,?_⟩)))));by_cases e:j=i;subst e;exact hm;exact h0 j hj (by omega);show [AV.int .i64 (IntKind.i64.wrap ((i:Int)+1))]=[AV.int .i64 ((i+1:Nat):Int)];rw [v6_ (by omega) (by omega)];rfl;omega;have hlt:¬(i:Int)<(l.length:Int):=dF hlt;omega
theorem I2 {l:List GI} {x:AV} (hx:SlV l_ 7 l x) (hl:l.length<=1000000) (hm:∀g∈l,g.May) (cells:Int):jD_ Tryz.prog 104 [x,.fn 64 [.vptr [x],.vptr [.int .i64 cells]]] (.int .i64 (ye_ (λg=>decide (¬g.Plc l.length cells)) l)):=by
 have okx:=hx.ok okG;refine vj_ (args':=[.sym 64,.fn 64 [.vptr [.sym 65],.vptr [.sym 66]]]) (ls:=[x,x,.int .i64 cells]) (c:=cI2b) (n:=300) (m:=67) (t:=Fl_) mo ov (by simp only [mO_,L_ okx,Sx.okI,okL,okC,okx]) rfl (by simp only [okL,okC,okx]) rfl (λY hf=>rfl) (λY _=>vX_ _) rfl (by kernel_rfl) λY hf hg=>?_;unfold Fl_;refine VOK_lt (xZ_ hx) rfl ?_;refine uY_ (ι:=Nat) (λi=>[.int .i64 (i:Int)]) (λi=>i<=l.length/\∀j (h:j<l.length),j<i->decide (¬(l[j].Plc l.length cells))=false) (λi=>l.length-i) 0 ⟨zb' _,λj _ h=>by omega⟩ rfl (λ_ _=>rfl) (λi j _ _ h=>?_) (λi hi=>?_)
 .have h:=(List.cons.inj h).1;injection h with _ h
  omega
 obtain ⟨hi,h0⟩:=hi;refine VOK_lt (run_lss ..) rfl (vz_ rfl (λhlt=>?_) (λhlt=>uX_ (congrArg (AV.int .i64) (xw_ λj hj=>h0 j hj ?_).symm)));have hlt:(i:Int)<(l.length:Int):=dT hlt;have hlt:i<l.length:=(by omega);refine VOK_lt (iaI hx hlt) (yn_ l i) (vA_ (ldI hlt) rfl (okG _) (uW_ (p64 hx cells (hm _ (zd' hlt))) rfl (by simp only [okL,okC,Sx.okI,okx,l_]) (vz_ rfl (λhm=>uX_ (congrArg (AV.int .i64) (za_ hlt h0 hm).symm)) (λhm=>VOK_lt (run_add ..) rfl (uJ_ rfl ⟨i+1,⟨hlt,λj hj hji=>?_⟩,?_,?_⟩)))));by_cases e:j=i;subst e;exact hm;exact h0 j hj (by omega);show [AV.int .i64 (IntKind.i64.wrap ((i:Int)+1))]=[AV.int .i64 ((i+1:Nat):Int)];rw [v6_ (by omega) (by omega)];rfl;omega;have hlt:¬(i:Int)<(l.length:Int):=dF hlt;omega
theorem C1 {l:List GI} {x:AV} (hx:SlV l_ 7 l x) (hl:l.length<=1000000):jD_ Tryz.prog 61 [x,.fn 62 []] (.bool (decide (¬∀g∈l,g.May))):=by have okx:=hx.ok okG;refine vj_ (args':=[.sym 64,.fn 62 []]) (ls:=[x]) (c:=Gs_) (n:=300) (m:=65) (t:=Fi_) mo ov (by simp only [mO_,L_ okx,Sx.okI,okL]) rfl (by simp only [okL,okx]) rfl (λY hf=>rfl) (λY _=>vX_ _) rfl (by kernel_rfl) λY hf hg=>?_;unfold Fi_;refine uW_ (I1 hx hl) rfl (by simp only [okL,okC,L_,okx]) (VOK_lt (run_geq ..) rfl (uX_ (bE ((zb_ _ l).trans ?_))));constructor;rintro ⟨g,hg,h⟩ ha;simp [ha g hg]at h;intro h;apply Classical.byContradiction;intro hn;exact h λg hg=>Classical.byContradiction λhm=>hn ⟨g,hg,by simp [hm]⟩
theorem C2 {l:List GI} {x:AV} (hx:SlV l_ 7 l x) (hl:l.length<=1000000) (hm:∀g∈l,g.May) (cells:Int):jD_ Tryz.prog 61 [x,.fn 64 [.vptr [x],.vptr [.int .i64 cells]]] (.bool (decide (¬∀g∈l,g.Plc l.length cells))):=by have okx:=hx.ok okG;refine vj_ (args':=[.sym 64,.fn 64 [.vptr [.sym 65],.vptr [.sym 66]]]) (ls:=[x,x,.int .i64 cells]) (c:=Gt_) (n:=300) (m:=67) (t:=Fj_) mo ov (by simp only [mO_,L_ okx,Sx.okI,okL,okC,okx]) rfl (by simp only [okL,okC,okx]) rfl (λY hf=>rfl) (λY _=>vX_ _) rfl (by kernel_rfl) λY hf hg=>?_;unfold Fj_;refine uW_ (I2 hx hl hm cells) rfl (by simp only [okL,okC,L_,okx]) (VOK_lt (run_geq ..) rfl (uX_ (bE ((zb_ _ l).trans ?_))));constructor;rintro ⟨g,hg,h⟩ ha;simp [ha g hg]at h;intro h;apply Classical.byContradiction;intro hn;exact h λg hg=>Classical.byContradiction λhm=>hn ⟨g,hg,by simp [hm]⟩
def s_ (g:GI) (a:Nat):List Nat:=if g.op=23 then []else if g.op=20 then [g.ad.toNat]else if g.op=21 then [g.ad.toNat,a+1]else [a+1]
def t5_ (a:Nat):List AV:=[.int .i64 (a:Int)]
theorem GP_ (a:Nat):(t5_ a).length=1:=rfl
theorem zJ_ (a:Nat):okL (t5_ a)=true:=rfl
theorem Ei_ {g:GI} (hm:g.May):jD_ Tryz.prog 113 [.agg (l_ g)] (.tup [.int .i64 (d_ g:Int),.int .i64 (x_ g.op)]):=by
 obtain ⟨op,kd,ad,n,vk,vi,vf⟩:=g;have hb:1<=op/\op<=23/\0<=ad/\ad<=399/\0<=n/\n<=8/\(op=22->6<=kd/\kd<=12):=tf_ hm;refine uk_ (sh:=[some 7]) (ls:=l_ ⟨op,kd,ad,n,vk,vi,vf⟩) (c:=FS_) (n:=300) (t:=EI_) mo ov rfl (okG _) rfl (λY _=>vX_ _) rfl (by kernel_rfl) λY hf hg=>?_;unfold EI_;repeat' (refine b_ rfl rfl ?_ ?_<;>intro h<;>simp only [nc]at h<;>try omega)
 all_goals exact uX_ (Hu_ (by unfold d_;simp only;(repeat' split)<;>omega) (by unfold x_;simp only;split<;>omega))
theorem Ej_ {g:GI} (hm:g.May) {a:Nat} (ha:a<=1000000):jD_ Tryz.prog 114 [.agg (l_ g),.int .i64 (a:Int)] (a3_ t5_ 1 (s_ g a)):=by
 obtain ⟨op,kd,ad,n,vk,vi,vf⟩:=g;have hb:1<=op/\op<=23/\0<=ad/\ad<=399/\0<=n/\n<=8/\(op=22->6<=kd/\kd<=12):=tf_ hm;have had:((ad.toNat:Nat):Int)=ad:=Int.toNat_of_nonneg (by omega);have e1:IntKind.i64.wrap ((a:Int)+1)=((a+1:Nat):Int):=by rw [v6_ (by omega) (by omega)];rfl
 refine uk_ (sh:=[some 7,none]) (ls:=l_ ⟨op,kd,ad,n,vk,vi,vf⟩++[.int .i64 (a:Int)]) (c:=FT_) (n:=300) (t:=EJ_) mo ov rfl rfl (qc_ (ut_ zJ_ _)) (λY _=>vX_ _) rfl (by kernel_rfl) λY hf hg=>?_;unfold EJ_;repeat' (refine b_ rfl rfl ?_ ?_<;>intro h<;>simp only [nc]at h<;>try omega)
 refine uX_ ?_;rw [show s_ ⟨op,kd,ad,n,vk,vi,vf⟩ a=[] from if_pos h];rfl;refine uX_ ?_;rw [show s_ ⟨op,kd,ad,n,vk,vi,vf⟩ a=[ad.toNat] from by unfold s_;rw [if_neg (by assumption),if_pos h]];show AV.vsl 1 1 [.int .i64 ad]=.vsl 1 1 [.int .i64 (ad.toNat:Int)];rw [had];refine VOK_lt (run_add ..) rfl (uX_ ?_);rw [show s_ ⟨op,kd,ad,n,vk,vi,vf⟩ a=[ad.toNat,a+1] from by unfold s_;rw [if_neg (by assumption),if_neg (by assumption),if_pos h]];show AV.vsl 2 1 [.int .i64 ad,.int .i64 (IntKind.i64.wrap ((a:Int)+1))]=.vsl 2 1 [.int .i64 (ad.toNat:Int),.int .i64 ((a+1:Nat):Int)];rw [had,e1];refine VOK_lt (run_add ..) rfl (uX_ ?_);rw [show s_ ⟨op,kd,ad,n,vk,vi,vf⟩ a=[a+1] from by unfold s_;rw [if_neg (by assumption),if_neg (by assumption),if_neg h]];show AV.vsl 1 1 [.int .i64 (IntKind.i64.wrap ((a:Int)+1))]=.vsl 1 1 [.int .i64 ((a+1:Nat):Int)];rw [e1]
def c66:VC:=⟨⟨[],[]⟩,[(113,[none,none]),(114,[none])],[(0,[⟨[(4,.map 0),(3,.slx 0 0 0),(5,.map 1),(0,64),(6,.slx 2 2 1),(2,.slx 2 0 0)],[],3,5,[⟨2,2,1,6,none⟩],[(0,3),(1,4)],[]⟩]),(2,[⟨[(81,.slx 0 0 0),(10,.slx 1 0 0),(6,.slx 2 2 2),(79,.slx 3 0 0),(4,.map 0),(3,.slx 4 0 0),(5,.map 1),(0,64),(2,67),(80,.slx 5 0 0)],[],3,8,[⟨2,2,2,6,none⟩],[(0,6),(1,7)],[]⟩])],0,true,[]⟩
def t66:VT:=.loop 65 0 [.bool false,.vsl 1 2 [J 0,J 0],.bool false,.vsl 0 2 [],.vsl 0 2 []] (.cons 5 (Li (.len 177) [66] 70<|It Qb [70,J 0] 71 (Li (.len 177) [66] 72<|Li Qj [72,J 1] 73<|Li Q2 [66,73] 74<|.lt (.ldx 176 2 0) [66,74] 75 (some 2)<|Li (.len 177) [66] 77<|Li Qj [77,J 1] 78<|Li .tkx [66,66,78] 79<|It (.mlk 173) [68,.agg [75,76]] 80 (.again 0 0 [65,79,67,68,69])<|Li (.mpu 173) [68,.agg [75,76],.bool true] 81<|Li (.mlk 174) [69,75] 82<|Li Q3 [82,J 1] 83<|Li (.mput 174) [69,75,83] 84<|.ite 65 (Li Qk [64,75] 85<|.lt Qy [85] 86 (some 7)<|.call 113 [.agg [86,87,88,89,90,91,92]] 93 [none,none]<|Li Zg [76,93] 95<|Li Qr [95,94] 96<|It Q5 [76,93] 97 (.again 0 0 [.bool true,79,.bool true,81,84])<|It Qb [96,J 16] 98 (.again 0 0 [.bool true,79,.bool true,81,84])<|Li Qk [64,75] 99<|.lt Qy [99] 100 (some 7)<|.call 114 [.agg [100,101,102,103,104,105,106],75] 107 [none]<|Li Qf [107] 108<|.loop 109 0 [J 0,96,79,107,.bool true,108,81,84] (.cons 8 (It Q5 [109,114] 117 (Li (.iaddr 74) [112,109] 118<|Li Qn [118] 119<|Li Za [111,.agg [119,110]] 120<|Li Q3 [109,J 1] 121<|.again 1 0 [121,110,120,112,113,114,115,116])<|.again 0 0 [113,111,67,115,116]) .nil))<|Li (.mlk 174) [84,75] 85<|Li Qb [85,J 1] 86<|Li Qk [64,75] 87<|.lt Qy [87] 88 (some 7)<|.call 113 [.agg [88,89,90,91,92,93,94]] 95 [none,none]<|Li Zg [76,95] 97<|Li Qr [97,96] 98<|It Q5 [76,95] 99 (.again 0 0 [86,79,.bool true,81,84])<|It Qb [98,J 16] 100 (.again 0 0 [86,79,.bool true,81,84])<|Li Qk [64,75] 101<|.lt Qy [101] 102 (some 7)<|.call 114 [.agg [102,103,104,105,106,107,108],75] 109 [none]<|Li Qf [109] 110<|.loop 111 0 [J 0,98,79,109,86,110,81,84] (.cons 8 (It Q5 [111,116] 119 (Li (.iaddr 74) [114,111] 120<|Li Qn [120] 121<|Li Za [113,.agg [121,112]] 122<|Li Q3 [111,J 1] 123<|.again 1 0 [123,112,122,114,115,116,117,118])<|.again 0 0 [115,113,67,117,118]) .nil))<|.done (.tup [67,65])) .nil)
def c30:VC:=⟨⟨[],[]⟩,[(61,[none]),(66,[none,none])],[],0,true,[]⟩
def t30:VT:=Li Qi [64] 66<|Iq 66 0 67 (.done (J 2))<|Li Qi [64] 68<|It Qb [68,J 400] 69 (.done (J 2))<|.call 61 [64,.fn 62 []] 70 [none]<|.ite 70 (.done (J 2))<|Li Qi [64] 71<|Li Qj [71,J 1] 72<|Li Qk [64,72] 73<|Li Z4 [73] 74<|Li Qn [74] 75<|It Q1 [75,J 23] 76 (.done (J 2))<|.call 61 [64,.fn 64 [.vptr [64],.vptr [65]]] 77 [none]<|.ite 77 (.done (J 6))<|.call 66 [64] 78 [none,none]<|.ite 78 (.done (J 12))<|.ite 79 (.done (J 4))<|.done (J 0)
theorem am_ {P:Program} {α β:Type} (f:α->Sem β) (s:Sem α):aI_ P (s >>= f)=match aI_ P s with|some a=>aI_ P (f a)|none=>none:=by
 induction s with
 |pure a=>rfl
 |program k ih=>exact ih P
 |mark m k ih=>exact ih
 |_=>rfl
theorem und {P:Program} {t:TypeId} {d:TypeDesc} (h:P.underlying t=some d):aI_ P (underlying t)=some d:=by show aI_ P (match P.underlying t with|some d=>pure d|none=>stuck "no such type")=_;rw [h];rfl
theorem DO_ {P:Program} {t:TypeId} {k:IntKind} (h:P.underlying t=some (.int k)) (d:Nat) (a b:Int):aI_ P (Op.equalIn (d+1) t (.int .i64 a) (.int .i64 b))=some (a==b):=by unfold Op.equalIn;rw [am_,und h];rfl
theorem DP_ (a b c d:Int):h1_ Tryz.prog 176 (.agg [.int .i64 a,.int .i64 b]) (.agg [.int .i64 c,.int .i64 d])=some ((a==c)&&(b==d)):=by
 show aI_ Tryz.prog (Op.equalIn (9999+1) 176 (.agg #[.int .i64 a,.int .i64 b]) (.agg #[.int .i64 c,.int .i64 d]))=_;unfold Op.equalIn;rw [am_,und Tryz.underlying176];have h1:Tryz.prog.stoodInHeld 176=false:=by kernel_rfl
 have q0:∀x y:Int,aI_ Tryz.prog (part 3 #[.int .i64 x,.int .i64 y] 0)=some (.int .i64 x):=λx y=>by kernel_rfl
 have q1:∀x y:Int,aI_ Tryz.prog (part 3 #[.int .i64 x,.int .i64 y] 1)=some (.int .i64 y):=λx y=>by kernel_rfl
 have e9:∀x y:Int,aI_ Tryz.prog (Op.equalIn 9999 3 (.int .i64 x) (.int .i64 y))=some (x==y):=λx y=>DO_ Tryz.underlying3 9998 x y;have hp:aI_ Tryz.prog program=some Tryz.prog:=rfl;have hpu:∀{α:Type} (x:α),aI_ Tryz.prog (pure x)=some x:=λx=>rfl;simp only [am_,hp,h1,Bool.false_eq_true,if_false,List.forIn_toArray,List.forIn_cons,List.forIn_nil];simp [am_,q0,q1,e9,hpu];by_cases h:a=c;subst h;simp [am_,q0,q1,e9,hpu];by_cases h:b=d;subst h;simp [hpu];simp [hpu,h];simp [hpu,h]
def r_ (x:Nat×Nat):List AV:=[.int .i64 (x.1:Int),.int .i64 (x.2:Int)]
theorem Aw_ (x:Nat×Nat):(r_ x).length=2:=rfl
theorem yo_ (x:Nat×Nat):okL (r_ x)=true:=rfl
def ry_ (w:Nat×Nat):List AV:=[.iface 0 (.agg (r_ w)),.bool true]
theorem Ca_ (a b:Int):d0_ Tryz.prog 176 (.agg [.int .i64 a,.int .i64 b])=true:=by kernel_rfl
theorem eqQ (w q:Nat×Nat):h1_ Tryz.prog 176 (.agg (r_ w)) (.agg (r_ q))=some (decide (w=q)):=by refine (DP_ ..).trans (congrArg some ?_);rw [Bool.eq_iff_iff];simp only [Bool.and_eq_true,beq_iff_eq,decide_eq_true_eq,Prod.ext_iff];omega
theorem Ac_ (w:Nat×Nat):∀(s:List (Nat×Nat)) (i:Nat),(w∈s->∃j,dN_ Tryz.prog 176 (.agg (r_ w)) (nE_ (bi_ ry_ s)) i=some (some (j,.agg (r_ w),.bool true)))/\(w∉s->dN_ Tryz.prog 176 (.agg (r_ w)) (nE_ (bi_ ry_ s)) i=some none)
 |[],i=>⟨λh=>(za' h).elim,λ_=>rfl⟩
 |q::s,i=>by have e:nE_ (bi_ ry_ (q::s))=(.agg (r_ q),.bool true,0)::nE_ (bi_ ry_ s):=rfl;have ih:=Ac_ w s (i+1);rw [e];unfold dN_;rw [eqQ];by_cases h:w=q;subst h;rw [decide_eq_true rfl];exact ⟨λ_=>⟨i,rfl⟩,λhn=>absurd (zg' ..) hn⟩;rw [decide_eq_false h];exact ⟨λhm=>ih.1 ((List.mem_cons.1 hm).resolve_left h),λhn=>ih.2 λhm=>hn (zc' _ hm)⟩
theorem xi_ (s:List (Nat×Nat)) (w:Nat×Nat):(XOp.mlk 173).run Tryz.prog [dX_ ry_ 2 s,.agg (r_ w)]=some (.bool (decide (w∈s))):=by show br_ Tryz.prog ((⟨hnil,0,0⟩:AHeap).set 0 (.map (nE_ (bi_ ry_ s)) 0)) 173 (.map 0) (.agg (r_ w)) false=_;unfold br_;simp only [Tryz.underlying173,Tryz.underlying176];show dJ_ Tryz.prog _ 176 4 _ (.map 0) (.agg (r_ w)) false=_;unfold dJ_;have hc:d0_ Tryz.prog 176 (.agg (r_ w))=true:=Ca_ _ _;have hg:((⟨hnil,0,0⟩:AHeap).set 0 (.map (nE_ (bi_ ry_ s)) 0)).get 0=some (.map (nE_ (bi_ ry_ s)) 0):=rfl;obtain ⟨ti,hi,hz⟩:∃ti,Tryz.prog.info? 4=some ti/\ti.zero=some (.bool false):=⟨(Tryz.prog.info? 4).get!,by kernel_rfl,by kernel_rfl⟩;simp only [ec_,hc,Bool.and_self,hi,hz,hg];by_cases h:w∈s;obtain ⟨j,hj⟩:=(Ac_ w s 0).1 h;simp only [hj,decide_eq_true h];rfl;simp only [(Ac_ w s 0).2 h,decide_eq_false h];rfl
theorem D3_ (w:Nat×Nat):∀(s:List (Nat×Nat)),w∉s->rp_ Tryz.prog 176 (.agg (r_ w)) (.bool true) (bi_ ry_ s)=some (bi_ ry_ (s++[w]))
 |[],_=>rfl
 |q::s,h=>by have ih:=D3_ w s λhm=>h (zc' _ hm);have hq:¬w=q:=λe=>h (e▸zg' ..);show rp_ Tryz.prog 176 (.agg (r_ w)) (.bool true) (.iface 0 (.agg (r_ q))::.bool true::bi_ ry_ s)=_;unfold rp_;rw [show unK (.iface 0 (.agg (r_ q)))=.agg (r_ q) from rfl,eqQ,decide_eq_false hq];simp only [ih];rfl
theorem Ch_ (w:Nat×Nat):(ry_ w).length=2:=rfl
theorem AR_ (s:List (Nat×Nat)) (w:Nat×Nat) (h:w∉s):(XOp.mpu 173).run Tryz.prog [dX_ ry_ 2 s,.agg (r_ w),.bool true]=some (dX_ ry_ 2 (s++[w])):=by
 have hc:d0_ Tryz.prog 176 (.agg (r_ w))=true:=Ca_ _ _;have hl:(bi_ ry_ s).length=s.length*2:=a5_ Ch_ s;have hl2:(bi_ ry_ (s++[w])).length=(s.length+1)*2:=by rw [a5_ Ch_];simp
 unfold XOp.run dX_;simp only [Tryz.underlying173,Tryz.underlying176,ec_,hc,Bool.and_self,D3_ w s h,ah_,hl,hl2];have e1:Nat.beq (Nat.mul s.length 2) (s.length*2)=true:=zh' _;have e2:Nat.div ((s.length+1)*2) 2=(s++[w]).length:=by show (s.length+1)*2/2=_;rw [Nat.mul_div_cancel _ (by decide)];simp
 simp only [e1,e2,Nat.beq_refl];rfl
def wE_:List (Nat×Nat)->Nat->Nat->List (Nat×Nat)
 |[],a,c=>[(a,c)]
 |q::r,a,c=>if a=q.1 then (q.1,c)::r else q::wE_ r a c
def cg_:List (Nat×Nat)->Nat->Nat
 |[],_=>0
 |q::r,a=>if a=q.1 then q.2 else cg_ r a
theorem wD_ (a c b:Nat):∀H:List (Nat×Nat),cg_ (wE_ H a c) b=if b=a then c else cg_ H b
 |[]=>rfl
 |q::r=>by by_cases h:a=q.1;simp only [wE_,if_pos h,cg_];by_cases hb:b=q.1;rw [if_pos hb,if_pos (hb.trans h.symm)];rw [if_neg hb,if_neg (λe=>hb (e.trans h)),if_neg hb];simp only [wE_,if_neg h,cg_,wD_ a c b r];by_cases hb:b=q.1;rw [if_pos hb,if_neg (λe=>h (e.symm.trans hb)),if_pos hb];rw [if_neg hb,if_neg hb]
theorem DX_ (a b:Nat):hA_ (.int .i64) (.int .i64 (a:Int)) (.int .i64 (b:Int))=some (decide (a=b)):=by
 show some (eqI (a:Int) (b:Int))=_;rw [fJ_]
 congr 1
 rw [Bool.eq_iff_iff];simp only [beq_iff_eq,decide_eq_true_eq];omega
theorem Ci_ (a c:Nat):∀H:List (Nat×Nat),mI_ (.int .i64) (.int .i64 (a:Int)) (.int .i64 (c:Int)) (bi_ r_ H)=some (bi_ r_ (wE_ H a c))
 |[]=>rfl
 |q::r=>by show mI_ (.int .i64) (.int .i64 (a:Int)) (.int .i64 (c:Int)) (.int .i64 (q.1:Int)::.int .i64 (q.2:Int)::bi_ r_ r)=_;unfold mI_;rw [DX_];by_cases h:a=q.1;rw [decide_eq_true h];simp only [wE_,if_pos h];rfl;rw [decide_eq_false h];simp only [Ci_ a c r,wE_,if_neg h];rfl
theorem tE_ (a:Nat):∀(H:List (Nat×Nat)) (i:Nat),dL_ (.int .i64) (.int .i64 (a:Int)) (nE_ (bi_ r_ H)) i=some none/\cg_ H a=0\/∃j,dL_ (.int .i64) (.int .i64 (a:Int)) (nE_ (bi_ r_ H)) i=some (some (j,.int .i64 (cg_ H a:Int)))
 |[],i=>.inl ⟨rfl,rfl⟩
 |q::r,i=>by have e:nE_ (bi_ r_ (q::r))=(.int .i64 (q.1:Int),.int .i64 (q.2:Int),0)::nE_ (bi_ r_ r):=rfl;rw [e];unfold dL_;rw [DX_];by_cases h:a=q.1;rw [decide_eq_true h];simp only [cg_,if_pos h];exact .inr ⟨i,rfl⟩;rw [decide_eq_false h];simp only [cg_,if_neg h];exact tE_ a r (i+1)
theorem yB_ (H:List (Nat×Nat)) (a:Nat):(XOp.mlk 174).run Tryz.prog [dX_ r_ 2 H,.int .i64 (a:Int)]=some (.int .i64 (cg_ H a:Int)):=by show br_ Tryz.prog ((⟨hnil,0,0⟩:AHeap).set 0 (.map (nE_ (bi_ r_ H)) 0)) 174 (.map 0) (.int .i64 (a:Int)) false=_;have hg:((⟨hnil,0,0⟩:AHeap).set 0 (.map (nE_ (bi_ r_ H)) 0)).get 0=some (.map (nE_ (bi_ r_ H)) 0):=rfl;obtain ⟨ti,hi,hz⟩:∃ti,Tryz.prog.info? 3=some ti/\ti.zero=some (.int .i64 0):=⟨(Tryz.prog.info? 3).get!,by kernel_rfl,by kernel_rfl⟩;unfold br_;simp only [Tryz.underlying174,Tryz.underlying3,gl_,hi,hz,hg];rcases tE_ a H 0 with ⟨h1,h2⟩|⟨j,h⟩;simp only [h1,h2];rfl;simp only [h];rfl
theorem zS_ (H:List (Nat×Nat)) (a c:Nat):(XOp.mput 174).run Tryz.prog [dX_ r_ 2 H,.int .i64 (a:Int),.int .i64 (c:Int)]=some (dX_ r_ 2 (wE_ H a c)):=by have hl:∀H:List (Nat×Nat),(bi_ r_ H).length=H.length*2:=λH=>a5_ Aw_ H;unfold XOp.run dX_ tO_;simp only [Tryz.underlying174,Tryz.underlying3,gl_,Ci_,ah_,hl];have e1:Nat.beq (Nat.mul H.length 2) (H.length*2)=true:=zh' _;have e2:Nat.div ((wE_ H a c).length*2) 2=(wE_ H a c).length:=Nat.mul_div_cancel _ (by decide);simp only [e1,e2,Nat.beq_refl,Bool.and_self]
theorem BH_ (w:Nat×Nat):okL (ry_ w)=true:=rfl
def hts (s:List (Nat×Nat)):List (Nat×Nat):=s.foldl (λH w=>wE_ H w.1 (cg_ H w.1+1)) []
theorem Ak_ (s:List (Nat×Nat)) (w:Nat×Nat):hts (s++[w])=wE_ (hts s) w.1 (cg_ (hts s) w.1+1):=by unfold hts;rw [List.foldl_append];rfl
theorem xy_ (a:Nat):∀(s H:List (Nat×Nat)),cg_ (s.foldl (λH w=>wE_ H w.1 (cg_ H w.1+1)) H) a=cg_ H a+cnt s a
 |[],H=>rfl
 |w::s,H=>by rw [List.foldl_cons,xy_ a s,wD_];unfold cnt;rw [List.countP_cons];by_cases h:a=w.1;subst h;simp;omega;have:¬((w.1==a)=true):=(by simpa using λe:w.1=a=>h e.symm);rw [if_neg h,if_neg this];omega
theorem yi_ (s:List (Nat×Nat)) (a:Nat):cg_ (hts s) a=cnt s a:=by have:=xy_ a s [];unfold hts;rw [this];show 0+cnt s a=_;omega
theorem CH_ (s:List (Nat×Nat)) (a:Nat):cnt s a<=s.length:=List.countP_le_length
theorem yP_ (l:List (Nat×Nat)):(XOp.len 177).run Tryz.prog [dX_ r_ 2 l]=some (.int .i64 (l.length:Int)):=(SlV.v (enc:=r_) (w:=2) l).len Tryz.underlying177
theorem y0_ {α:Type} {enc:α->List AV} {w:Nat} {l:List α} (h:l≠[]):dX_ enc w l=a3_ enc w l:=by
 cases l with
 |nil=>exact absurd rfl h
 |cons a r=>rfl
theorem GL_ {l:List (Nat×Nat)} {i:Nat} (hi:i<l.length):(XOp.inb).run Tryz.prog [dX_ r_ 2 l,.int .i64 (i:Int)]=some (.int .i64 (i:Int)):=by
 have hne:l≠[]:=λe=>by rw [e]at hi;exact absurd hi (zi' _)
 rw [y0_ hne];exact wd_ hi .i64
theorem ldQ {l:List (Nat×Nat)} {i:Nat} (hi:i<l.length):(XOp.ldx 176 2 0).run Tryz.prog [dX_ r_ 2 l,.int .i64 (i:Int)]=some (.agg (r_ l[i])):=by
 have hne:l≠[]:=λe=>by rw [e]at hi;exact absurd hi (zi' _)
 rw [y0_ hne];exact run_ldxN (ti:=(Tryz.prog.info? 176).get!) Tryz.underlying176 rfl (by kernel_rfl) (by kernel_rfl) Aw_ hi .i64
theorem tkQ (l:List (Nat×Nat)) {i:Nat} (hi:i<=l.length):(XOp.tkx).run Tryz.prog [dX_ r_ 2 l,dX_ r_ 2 l,.int .i64 (i:Int)]=some (dX_ r_ 2 (l.take i)):=by
 have h:=dv_ (bi_ r_ (l.take i)) (bi_ r_ (l.drop i));rw [←dn_,List.take_append_drop,a5_ Aw_]at h;have hlen:(l.take i).length=i:=by rw [List.length_take];omega
 rw [hlen]at h;have hb:(Nat.beq 2 2&&(Nat.ble i l.length&&Nat.ble i l.length))=true:=by simp [hi]
 show (match Nat.beq 2 2&&(Nat.ble i l.length&&Nat.ble i l.length)with
  |true=>match aZ_ (Nat.mul i 2) (bi_ r_ l)with
   |some cs'=>some (AV.vsl i 2 cs')
   |none=>none
  |false=>none)=_
 rw [hb];have h':aZ_ (Nat.mul i 2) (bi_ r_ l)=some (bi_ r_ (l.take i)):=h;simp only [h'];unfold dX_;rw [hlen]
theorem Ds_ (l:List (Nat×Nat)) (b h:Nat) (hl:l.length<=1000000):(XOp.app 2 16).run Tryz.prog [dX_ r_ 2 l,.agg [.int .i64 (b:Int),.int .i64 (h:Int)]]=some (dX_ r_ 2 (l++[(b,h)])):=by
 have hn:Nat.div (aK_ (r_ (b,h))) 2=1:=by rw [ah_,Aw_]
 show fE_ 2 16 (dX_ r_ 2 l) (Nat.div (aK_ (r_ (b,h))) 2) (r_ (b,h))=_;rw [hn];have h2:(bi_ r_ l).length=l.length*2:=a5_ Aw_ l;unfold fE_ dX_;have hd:decide ((r_ (b,h)).length=1*2)=true:=rfl;have c1:(Nat.ble (Nat.mul (Nat.add l.length 1) 16) 1073741824&&Nat.ble (Nat.add l.length 1) 1073741824&&Nat.blt 0 16)=true:=by have e:Nat.mul (Nat.add l.length 1) 16=(l.length+1)*16:=rfl;have e2:Nat.add l.length 1=l.length+1:=rfl;rw [e,e2,Nat.ble_eq_true_of_le (by omega),Nat.ble_eq_true_of_le (by omega)];rfl
 simp only [hd,h2,decide_true,and_self,c1,dn_,List.length_append];rfl
def n_ (l:List GI):WG where
 N:=l.length
 tk:=λa=>match l[a]? with
  |some g=>d_ g
  |none=>0
 lv:=λa=>match l[a]? with
  |some g=>(x_ g.op).toNat
  |none=>0
 goes:=λa=>match l[a]? with
  |some g=>s_ g a
  |none=>[]
structure Form (l:List GI) (cells:Int):Prop where
 n1:0<l.length
 n4:l.length<=400
 may:∀g∈l,g.May
 last:∀h:l.length-1<l.length,l[l.length-1].op=23
 plc:∀g∈l,g.Plc l.length cells
theorem Form.ok {l:List GI} {cells:Int} (h:Form l cells):(n_ l).Ok where
 pos:=h.n1
 inn:=λa ha b hb=>by have ha:a<l.length:=ha;have hb:b∈(match l[a]? with|some g=>s_ g a|none=>[]):=hb;rw [List.getElem?_eq_getElem ha]at hb;have hb:b∈s_ l[a] a:=hb;have hm:=tf_ (h.may _ (zd' ha));have hp:(l[a].op=20\/l[a].op=21->l[a].ad<(l.length:Int)):=(h.plc _ (zd' ha)).2.2.2;have hn:l[a].op≠23->a+1<l.length:=λhne=>(by apply Classical.byContradiction;intro hc;have:a=l.length-1:=(by omega);subst this;exact hne (h.last ha));show b<l.length;unfold s_ at hb;split at hb;cases hb;split at hb;rw [List.mem_singleton.1 hb];have:=hp (.inl (by assumption));omega;split at hb;rcases List.mem_cons.1 hb with e|hb;rw [e];have:=hp (.inr (by assumption));omega;rw [List.mem_singleton.1 hb];exact hn (by omega);rw [List.mem_singleton.1 hb];exact hn (by assumption)
 two:=λa=>by
  show (match l[a]? with|some g=>s_ g a|none=>[]).length<=2;split
  .unfold s_;repeat' split
   all_goals simp
  simp
theorem Fr_ {l:List GI} {a:Nat} (h:a<l.length):(n_ l).tk a=d_ l[a]:=by show (match l[a]? with|some g=>d_ g|none=>0)=_;rw [List.getElem?_eq_getElem h]
theorem Fq_ {l:List GI} {a:Nat} (h:a<l.length):((n_ l).lv a:Int)=x_ l[a].op:=by show (((match l[a]? with|some g=>(x_ g.op).toNat|none=>0):Nat):Int)=_;rw [List.getElem?_eq_getElem h];show (((x_ l[a].op).toNat:Nat):Int)=_;unfold x_;split<;>rfl
theorem B4_ {l:List GI} {a:Nat} (h:a<l.length):(n_ l).goes a=s_ l[a] a:=by show (match l[a]? with|some g=>s_ g a|none=>[])=_;rw [List.getElem?_eq_getElem h]
theorem yQ_ {s s':List (Nat×Nat)} (h:dX_ ry_ 2 s=dX_ ry_ 2 s') (w:Nat×Nat):(w∈s)=(w∈s'):=by
 have a:=xi_ s w;rw [h,xi_ s' w]at a;injection a with a
 injection a with a
 exact propext (decide_eq_decide.1 a).symm
theorem Au_ {g:WG} {s s':List (Nat×Nat)} (h:∀w,(w∈s)=(w∈s')):left g s=left g s':=x6_ _ λi _=>by unfold xD_;exact decide_eq_decide.2 (by rw [h])
theorem iaN {l:List Nat} {i:Nat} (h:i<l.length):(XOp.iaddr 74).run Tryz.prog [a3_ t5_ 1 l,.int .i64 (i:Int)]=some (.vptr (bi_ t5_ (l.drop i))):=(SlV.of (enc:=t5_) (w:=1) l).ia (e:=3) Tryz.underlying74 (ti:=(Tryz.prog.info? 3).get!) (by kernel_rfl) (by kernel_rfl) GP_ h .i64
theorem D9_ (l:List Nat) (i:Nat):okC (.vptr (bi_ t5_ (l.drop i)))=true:=kY_ zJ_ _
theorem ldN {l:List Nat} {i:Nat} (h:i<l.length):(XOp.load 3).run Tryz.prog [.vptr (bi_ t5_ (l.drop i))]=some (.int .i64 (l[i]:Int)):=by rw [List.drop_eq_getElem_cons h];exact s9_ Tryz.underlying3 rfl _ _
open Classical in
theorem p66 {l:List GI} {cells:Int} (hF:Form l cells) {x:AV} (hx:SlV l_ 7 l x):jD_ Tryz.prog 66 [x] (.tup [.bool (decide (n_ l).Full),.bool (decide (n_ l).Two)]):=by
 have okx:=hx.ok okG;have hg:=hF.ok;have n4:=hF.n4;refine uk_ (sh:=[none]) (ls:=[x]) (c:=c66) (n:=300) (t:=t66) mo ov (by rcases hx with rfl|⟨_,rfl⟩<;>rfl) (by simp only [okL,okx]) rfl (λY _=>vX_ _) rfl (by kernel_rfl) λY hf hg'=>?_;unfold t66;refine uY_ (ι:=List (Nat×Nat)×List (Nat×Nat)) (λp=>[.bool (C_ p.1),dX_ r_ 2 p.2,.bool (I_ (n_ l) p.1),dX_ ry_ 2 p.1,dX_ r_ 2 (hts p.1)]) (λp=>Srch (n_ l) p.1 p.2) (λp=>2*left (n_ l) p.1+p.2.length) ([],[(0,0)]) (Srch.begin hg) rfl
  (λp _=>by simp only [okL,okC,sl_ yo_,sl_ BH_]) (λp q _ _ h=>?_) (λp hp=>?_)
 have h2:=(List.cons.inj (List.cons.inj h).2).1;have h4:=(List.cons.inj (List.cons.inj (List.cons.inj (List.cons.inj h).2).2).2).1;have e1:=Au_ (g:=n_ l) (yQ_ h4);have e2:p.2.length=q.2.length:=(AV.vsl.inj h2).1;rw [e1,e2];obtain ⟨s,td⟩:=p;have hS:Srch (n_ l) s td:=hp;refine VOK_lt (yP_ td) rfl (VOK_lt (run_gtr ..) rfl (vz_ rfl (λh0=>?_) (λh0=>?_)))
 rotate_left
 have h0:¬(0:Int)<(td.length:Int):=dF h0;have hn:td=[]:=List.length_eq_zero_iff.1 (by omega);subst hn;refine uX_ ?_;show AV.tup [.bool (I_ (n_ l) s),.bool (C_ s)]=_;have e1:I_ (n_ l) s=decide (n_ l).Full:=Bool.eq_iff_iff.2 (hS.full.trans (decide_eq_true_iff).symm);have e2:C_ s=decide (n_ l).Two:=Bool.eq_iff_iff.2 (hS.two.trans (decide_eq_true_iff).symm);rw [e1,e2];have h0:(0:Int)<(td.length:Int):=dT h0;have hlt:td.length-1<td.length:=by omega
 have hsz:=hS.lt;have hN:(n_ l).N=l.length:=rfl;rw [hN]at hsz;have em:IntKind.i64.wrap ((td.length:Int)-1)=((td.length-1:Nat):Int):=by rw [v6_ (by omega) (by omega)];omega
 obtain ⟨t,ht⟩:∃t,td.take (td.length-1)=t:=⟨_,rfl⟩;obtain ⟨w,hw⟩:∃w,td[td.length-1]=w:=⟨_,rfl⟩;have htd:td=t++[w]:=by rw [←ht,←hw];have:=(List.take_append_drop (td.length-1) td).symm;rw [List.drop_eq_getElem_cons hlt,List.drop_of_length_le (by omega)]at this;exact this
 have hmem:∀v,v∈td↔v=w\/v∈t:=λv=>by rw [htd,List.mem_append,List.mem_singleton];exact Or.comm
 have hlen:t.length+1=td.length:=by rw [htd,List.length_append];rfl
 have hwt:=hS.rt w ((hmem w).2 (.inl rfl));have hw1:w.1<l.length:=hwt.2.1;have hw2:=hwt.2.2;have hgm:=hF.may _ (zd' hw1);have hmb:=tf_ hgm;have htk:=Fr_ hw1;have hlv:=Fq_ hw1;have hgo:=B4_ hw1;have htk8:d_ l[w.1]<=8:=by unfold d_;(repeat' split)<;>omega
 have hgv:0<=x_ l[w.1].op/\x_ l[w.1].op<=1:=by unfold x_;split<;>omega
 refine VOK_lt (yP_ td) rfl (VOK_lt (r:=.int .i64 ((td.length-1:Nat):Int)) (by rw [←em];exact run_sub ..) rfl (VOK_lt (GL_ hlt) rfl (vA_ (ldQ hlt) rfl (yo_ _) ?_)));refine VOK_lt (yP_ td) rfl (VOK_lt (r:=.int .i64 ((td.length-1:Nat):Int)) (by rw [←em];exact run_sub ..) rfl (VOK_lt (tkQ td (i:=td.length-1) (by omega)) (sl_ yo_ _) ?_));rw [ht,hw];refine VOK_lt (xi_ s w) rfl (vz_ rfl (λhin=>?_) (λhin=>?_));have hin:w∈s:=dT hin;exact uJ_ rfl ⟨(s,t),hS.seen hmem hlen hin,rfl,by show 2*left (n_ l) s+t.length<2*left (n_ l) s+td.length;omega⟩;have hns:w∉s:=dF hin;have hcnt:cnt s w.1<=1000000:=by have h1:=CH_ s w.1;have h2:=Srch.len_le hS;have hN:(n_ l).N=l.length:=rfl;omega
 have hfr:(n_ l).full w=true->Srch (n_ l) (s++[w]) t/\2*left (n_ l) (s++[w])+t.length<2*left (n_ l) s+td.length:=λhfull=>by have hnx:(n_ l).nxt w=[]:=(by unfold WG.nxt;rw [if_pos hfull]);exact Srch.fresh hg hS (w:=w) (t':=t) (t2:=t) hmem hlen hns (λv=>by rw [hnx];simp) (by rw [hnx];rfl)
 have eh:IntKind.i64.wrap ((cnt s w.1:Int)+1)=((cnt s w.1+1:Nat):Int):=by rw [v6_ (by omega) (by omega)];rfl
 have hH:=Ak_ s w;rw [yi_]at hH;have m1:=yB_ (hts s) w.1;rw [yi_]at m1;have m2:=zS_ (hts s) w.1 (cnt s w.1+1);rw [←hH]at m2;have m3:=yB_ (hts (s++[w])) w.1;have c3:cg_ (hts (s++[w])) w.1=cnt s w.1+1:=by rw [hH,wD_,if_pos rfl]
 rw [c3]at m3;have st_eq:∀{u f:Bool},u=C_ (s++[w])->f=I_ (n_ l) (s++[w])->[AV.bool u,dX_ r_ 2 t,.bool f,dX_ ry_ 2 (s++[w]),dX_ r_ 2 (hts (s++[w]))]=[AV.bool (C_ (s++[w])),dX_ r_ 2 t,.bool (I_ (n_ l) (s++[w])),dX_ ry_ 2 (s++[w]),dX_ r_ 2 (hts (s++[w]))]:=λh1 h2=>by rw [h1,h2]
 refine VOK_lt (AR_ s w hns) (sl_ BH_ _) (VOK_lt m1 rfl (VOK_lt (r:=.int .i64 ((cnt s w.1+1:Nat):Int)) (by rw [←eh];exact run_add ..) rfl (VOK_lt m2 (sl_ yo_ _) (vz_ rfl (λhu=>?_) (λhu=>?_)))))
 .have hu:C_ s=true:=hu;have u1:true=C_ (s++[w]):=by rw [wN_,hu];rfl
  (
   refine VOK_lt (iaI hx hw1) (yn_ l w.1) (vA_ (ldI hw1) rfl (okG _) (uW_ (Ei_ hgm) rfl rfl ?_));refine VOK_lt (r:=.int .i64 ((w.2:Int)-(d_ l[w.1]:Int))) (by rw [←v6_ (x:=(w.2:Int)-(d_ l[w.1]:Int)) (by omega) (by omega)];exact run_sub ..) rfl ?_;refine VOK_lt (r:=.int .i64 ((w.2:Int)-(d_ l[w.1]:Int)+x_ l[w.1].op)) (by rw [←v6_ (x:=(w.2:Int)-(d_ l[w.1]:Int)+x_ l[w.1].op) (by omega) (by omega)];exact run_add ..) rfl ?_;refine VOK_lt (run_lss ..) rfl (vz_ rfl (λhlow=>?_) (λhlow=>?_));have hlow:(w.2:Int)<(d_ l[w.1]:Int):=dT hlow;have hfull:(n_ l).full w=true:=(by unfold WG.full;rw [htk,decide_eq_true (by omega)];rfl);exact uJ_ rfl ⟨(s++[w],t),(hfr hfull).1,st_eq u1 (by rw [P_,hfull,Bool.or_true]),(hfr hfull).2⟩;have hlow:¬(w.2:Int)<(d_ l[w.1]:Int):=dF hlow;refine VOK_lt (run_gtr ..) rfl (vz_ rfl (λhhi=>?_) (λhhi=>?_));have hhi:(16:Int)<(w.2:Int)-(d_ l[w.1]:Int)+x_ l[w.1].op:=dT hhi;have hfull:(n_ l).full w=true:=(by unfold WG.full;rw [htk,decide_eq_true (p:=16<w.2-d_ l[w.1]+(n_ l).lv w.1) (by omega),Bool.or_true]);exact uJ_ rfl ⟨(s++[w],t),(hfr hfull).1,st_eq u1 (by rw [P_,hfull,Bool.or_true]),(hfr hfull).2⟩;have hhi:¬(16:Int)<(w.2:Int)-(d_ l[w.1]:Int)+x_ l[w.1].op:=dF hhi;have hfull:(n_ l).full w=false:=(by unfold WG.full;rw [htk,decide_eq_false (by omega),decide_eq_false (by omega)];rfl);have hhiN:((w.2:Int)-(d_ l[w.1]:Int)+x_ l[w.1].op)=(((n_ l).hi w:Nat):Int):=(by unfold WG.hi;rw [htk];omega);rw [hhiN];have hnx:(n_ l).nxt w=(s_ l[w.1] w.1).map λb=>(b,(n_ l).hi w):=(by unfold WG.nxt;rw [if_neg (by rw [hfull];decide),hgo]);have hgl:(s_ l[w.1] w.1).length<=2:=(by rw [←hgo];exact hg.two _);refine VOK_lt (iaI hx hw1) (yn_ l w.1) (vA_ (ldI hw1) rfl (okG _) (uW_ (Ej_ hgm (a:=w.1) (by omega)) rfl (by show okL [a3_ t5_ 1 _]=true;simp only [okL,ut_ zJ_]) (VOK_lt ((SlV.of (enc:=t5_) (w:=1) _).len Tryz.underlying74) rfl ?_)));refine uY_ (ι:=Nat) (λi=>[.int .i64 (i:Int),.int .i64 (((n_ l).hi w:Nat):Int),dX_ r_ 2 (t++((s_ l[w.1] w.1).take i).map λb=>(b,(n_ l).hi w)),a3_ t5_ 1 (s_ l[w.1] w.1),.bool (C_ (s++[w])),.int .i64 ((s_ l[w.1] w.1).length:Int),dX_ ry_ 2 (s++[w]),dX_ r_ 2 (hts (s++[w]))])
    (λi=>i<=(s_ l[w.1] w.1).length) (λi=>(s_ l[w.1] w.1).length-i) 0 (zb' _) (by show [_,_,_,_,_,_,_,_]=[_,_,_,_,_,_,_,_];rw [List.take_zero,List.map_nil,List.append_nil,u1];rfl) (λi _=>by simp only [okL,okC,sl_ yo_,sl_ BH_,ut_ zJ_]) (λi j _ _ h=>?_) (λi hi=>?_)
   .have h:=(List.cons.inj h).1;injection h with _ h
    omega
   refine VOK_lt (run_lss ..) rfl (vz_ rfl (λhlt=>?_) (λhlt=>?_));have hlt:(i:Int)<((s_ l[w.1] w.1).length:Int):=dT hlt;have hlt:i<(s_ l[w.1] w.1).length:=(by omega);refine VOK_lt (iaN hlt) (D9_ _ i) (VOK_lt (ldN hlt) rfl (VOK_lt (Ds_ _ _ _ (by rw [List.length_append,List.length_map,List.length_take];omega)) (sl_ yo_ _) (VOK_lt (run_add ..) rfl (uJ_ rfl ⟨i+1,hlt,?_,by omega⟩))));show [AV.int .i64 (IntKind.i64.wrap ((i:Int)+1)),_,_,_,_,_,_,_]=[AV.int .i64 ((i+1:Nat):Int),_,_,_,_,_,_,_];rw [v6_ (by omega) (by omega),List.take_add_one,List.getElem?_eq_getElem hlt,Option.toList_some,List.map_append,←List.append_assoc];rfl
   .have hlt:¬(i:Int)<((s_ l[w.1] w.1).length:Int):=dF hlt;have hti:(s_ l[w.1] w.1).take i=s_ l[w.1] w.1:=zj' (by omega);have hf2:=Srch.fresh hg hS (w:=w) (t':=t) (t2:=t++(n_ l).nxt w) hmem hlen hns (λv=>zk') zl';refine uJ_ rfl ⟨(s++[w],t++(n_ l).nxt w),hf2.1,?_,hf2.2⟩;show [AV.bool (C_ (s++[w])),_,AV.bool (I_ (n_ l) s),_,_]=[AV.bool (C_ (s++[w])),_,AV.bool (I_ (n_ l) (s++[w])),_,_];rw [P_,hfull,Bool.or_false,hti,hnx];rfl)
 .have hu:C_ s=false:=hu;have u2:decide (1<((cnt s w.1+1:Nat):Int))=C_ (s++[w]):=(by rw [wN_,hu,Bool.false_or];exact decide_eq_decide.2 (by omega));refine VOK_lt m3 rfl (VOK_lt (run_gtr ..) rfl ?_)
  (
   refine VOK_lt (iaI hx hw1) (yn_ l w.1) (vA_ (ldI hw1) rfl (okG _) (uW_ (Ei_ hgm) rfl rfl ?_));refine VOK_lt (r:=.int .i64 ((w.2:Int)-(d_ l[w.1]:Int))) (by rw [←v6_ (x:=(w.2:Int)-(d_ l[w.1]:Int)) (by omega) (by omega)];exact run_sub ..) rfl ?_;refine VOK_lt (r:=.int .i64 ((w.2:Int)-(d_ l[w.1]:Int)+x_ l[w.1].op)) (by rw [←v6_ (x:=(w.2:Int)-(d_ l[w.1]:Int)+x_ l[w.1].op) (by omega) (by omega)];exact run_add ..) rfl ?_;refine VOK_lt (run_lss ..) rfl (vz_ rfl (λhlow=>?_) (λhlow=>?_));have hlow:(w.2:Int)<(d_ l[w.1]:Int):=dT hlow;have hfull:(n_ l).full w=true:=(by unfold WG.full;rw [htk,decide_eq_true (by omega)];rfl);exact uJ_ rfl ⟨(s++[w],t),(hfr hfull).1,st_eq u2 (by rw [P_,hfull,Bool.or_true]),(hfr hfull).2⟩;have hlow:¬(w.2:Int)<(d_ l[w.1]:Int):=dF hlow;refine VOK_lt (run_gtr ..) rfl (vz_ rfl (λhhi=>?_) (λhhi=>?_));have hhi:(16:Int)<(w.2:Int)-(d_ l[w.1]:Int)+x_ l[w.1].op:=dT hhi;have hfull:(n_ l).full w=true:=(by unfold WG.full;rw [htk,decide_eq_true (p:=16<w.2-d_ l[w.1]+(n_ l).lv w.1) (by omega),Bool.or_true]);exact uJ_ rfl ⟨(s++[w],t),(hfr hfull).1,st_eq u2 (by rw [P_,hfull,Bool.or_true]),(hfr hfull).2⟩;have hhi:¬(16:Int)<(w.2:Int)-(d_ l[w.1]:Int)+x_ l[w.1].op:=dF hhi;have hfull:(n_ l).full w=false:=(by unfold WG.full;rw [htk,decide_eq_false (by omega),decide_eq_false (by omega)];rfl);have hhiN:((w.2:Int)-(d_ l[w.1]:Int)+x_ l[w.1].op)=(((n_ l).hi w:Nat):Int):=(by unfold WG.hi;rw [htk];omega);rw [hhiN];have hnx:(n_ l).nxt w=(s_ l[w.1] w.1).map λb=>(b,(n_ l).hi w):=(by unfold WG.nxt;rw [if_neg (by rw [hfull];decide),hgo]);have hgl:(s_ l[w.1] w.1).length<=2:=(by rw [←hgo];exact hg.two _);refine VOK_lt (iaI hx hw1) (yn_ l w.1) (vA_ (ldI hw1) rfl (okG _) (uW_ (Ej_ hgm (a:=w.1) (by omega)) rfl (by show okL [a3_ t5_ 1 _]=true;simp only [okL,ut_ zJ_]) (VOK_lt ((SlV.of (enc:=t5_) (w:=1) _).len Tryz.underlying74) rfl ?_)));refine uY_ (ι:=Nat) (λi=>[.int .i64 (i:Int),.int .i64 (((n_ l).hi w:Nat):Int),dX_ r_ 2 (t++((s_ l[w.1] w.1).take i).map λb=>(b,(n_ l).hi w)),a3_ t5_ 1 (s_ l[w.1] w.1),.bool (C_ (s++[w])),.int .i64 ((s_ l[w.1] w.1).length:Int),dX_ ry_ 2 (s++[w]),dX_ r_ 2 (hts (s++[w]))])
    (λi=>i<=(s_ l[w.1] w.1).length) (λi=>(s_ l[w.1] w.1).length-i) 0 (zb' _) (by show [_,_,_,_,_,_,_,_]=[_,_,_,_,_,_,_,_];rw [List.take_zero,List.map_nil,List.append_nil,u2];rfl) (λi _=>by simp only [okL,okC,sl_ yo_,sl_ BH_,ut_ zJ_]) (λi j _ _ h=>?_) (λi hi=>?_)
   .have h:=(List.cons.inj h).1;injection h with _ h
    omega
   refine VOK_lt (run_lss ..) rfl (vz_ rfl (λhlt=>?_) (λhlt=>?_));have hlt:(i:Int)<((s_ l[w.1] w.1).length:Int):=dT hlt;have hlt:i<(s_ l[w.1] w.1).length:=(by omega);refine VOK_lt (iaN hlt) (D9_ _ i) (VOK_lt (ldN hlt) rfl (VOK_lt (Ds_ _ _ _ (by rw [List.length_append,List.length_map,List.length_take];omega)) (sl_ yo_ _) (VOK_lt (run_add ..) rfl (uJ_ rfl ⟨i+1,hlt,?_,by omega⟩))));show [AV.int .i64 (IntKind.i64.wrap ((i:Int)+1)),_,_,_,_,_,_,_]=[AV.int .i64 ((i+1:Nat):Int),_,_,_,_,_,_,_];rw [v6_ (by omega) (by omega),List.take_add_one,List.getElem?_eq_getElem hlt,Option.toList_some,List.map_append,←List.append_assoc];rfl
   .have hlt:¬(i:Int)<((s_ l[w.1] w.1).length:Int):=dF hlt;have hti:(s_ l[w.1] w.1).take i=s_ l[w.1] w.1:=zj' (by omega);have hf2:=Srch.fresh hg hS (w:=w) (t':=t) (t2:=t++(n_ l).nxt w) hmem hlen hns (λv=>zk') zl';refine uJ_ rfl ⟨(s++[w],t++(n_ l).nxt w),hf2.1,?_,hf2.2⟩;show [AV.bool (C_ (s++[w])),_,AV.bool (I_ (n_ l) s),_,_]=[AV.bool (C_ (s++[w])),_,AV.bool (I_ (n_ l) (s++[w])),_,_];rw [P_,hfull,Bool.or_false,hti,hnx];rfl)
end Go.Proofs.YtelnbodnjmldeaaGreat.vars
