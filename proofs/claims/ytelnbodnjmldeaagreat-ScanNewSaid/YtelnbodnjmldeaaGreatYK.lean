/-
  Mach's laws: what they begin with.
-/
import Derived.Test.YtelnbodnjmldeaaGreatYF
import Derived.Test.YtelnbodnjmldeaaGreatFA
import Derived.Test.YtelnbodnjmldeaaGreatSyK
set_option maxRecDepth 100000
set_option linter.unusedVariables false
set_option linter.unusedSimpArgs false
namespace Go.Proofs.YtelnbodnjmldeaaGreat.vars
open Go Go.Sx
theorem yh_ {b:List GS} {e:Bool} (h0:e=false->b=[]) (h1:e=true->b.length<=5/\∀s∈b,TS 3 s):b.length<=5/\∀s∈b,TS 3 s:=by
 cases e with
 |true=>exact h1 rfl
 |false=>rw [h0 rfl];exact ⟨Nat.zero_le _,λs hs=>(List.not_mem_nil hs).elim⟩
theorem xQ_ {x:List GS} (h:pe x=0):(O_ x).length<=400/\pl x=h_ (O_ x):=by unfold pe at h;split at h;rename_i hl;exact ⟨hl,by unfold pl;rw [if_pos hl]⟩;cases h
def AG_:VC:=⟨⟨[],[]⟩,[],[],0,true,[]⟩
def z2_:VT:=It Z7 [64,65] 67 (Li Zt [64,66] 68<|.done (68))<|.done (.bool false)
def AF_:VC:=⟨⟨[],[]⟩,[(108,[none])],[],0,true,[]⟩
def Bs_:VT:=.call 108 [66,J 0,J 63] 71 [none]<|.done (71)
def AH_:VC:=⟨⟨[],[]⟩,[(108,[none])],[],0,true,[]⟩
def Bt_:VT:=.call 108 [66,J 0,J 399] 71 [none]<|.done (71)
def AI_:VC:=⟨⟨[],[]⟩,[],[],0,true,[]⟩
def z3_:VT:=Iq 64 11 65 (.done (J 1))<|Iq 64 12 66 (.done (J 1))<|.done (J 2)
def AJ_:VC:=⟨⟨[],[]⟩,[],[],0,true,[]⟩
def z4_:VT:=Iq 64 9 65 (.done (.tup [J 1,J 5]))<|Iq 64 10 66 (.done (.tup [J 1,J 5]))<|Iq 64 13 67 (.done (.tup [J 1,J 1]))<|Iq 64 14 68 (.done (.tup [J 1,J 1]))<|Iq 64 15 69 (.done (.tup [J 1,J 1]))<|Iq 64 8 70 (.done (.tup [J 2,J 4]))<|.done (.tup [J 2,J 5])
def AE_:VC:=⟨⟨[],[]⟩,[],[],0,true,[]⟩
def z1_:VT:=Iq 64 0 67 (It Qt [65,J 0] 68 (It Zf [66,66] 69 (.done (.bool false))<|Li (.ext 159) [66] 70<|Li Ui [70,.int .u64 0] 71<|.done (71))<|.done (.bool false))<|.done (.bool false)
def AD_:VC:=⟨⟨[],[]⟩,[],[],0,true,[]⟩
def z0_:VT:=Iq 64 5 67 (Li Qt [65,J 0] 68<|.done (68))<|It Zf [66,66] 68 (.done (.bool false))<|Li (.ext 159) [66] 69<|It Uj [69,.int .u64 0] 70 (.done (.bool false))<|Iq 64 1 71 (It Qt [65,J 0] 72 (.done (.bool true))<|Li Qt [65,J 1] 73<|.done (73))<|Iq 64 2 72 (Li (.conv 2 219) [65] 73<|Li (.conv 219 2) [73] 74<|Li Qq [65,74] 75<|.done (75))<|Iq 64 3 73 (Li (.conv 2 21) [65] 74<|Li (.conv 21 2) [74] 75<|Li Qq [65,75] 76<|.done (76))<|Li Q0 [64,J 4] 74<|.done (74)
def c63:VC:=⟨⟨[],[]⟩,[(106,[none]),(105,[none]),(111,[none,none]),(110,[none]),(107,[none]),(108,[none]),(109,[none])],[],0,true,[]⟩
def t63:VT:=Iq 64 1 71 (Iq 66 0 72 (Iq 67 0 73 (It Q9 [65,68] 74 (.call 105 [.agg [68,69,70]] 75 [none]<|.done (75))<|.done (.bool false))<|.done (.bool false))<|.done (.bool false))<|.call 106 [.agg [68,69,70]] 72 [none]<|It Q6 [72] 73 (.done (.bool false))<|Iq 64 2 74 (Iq 65 0 75 (Iq 67 0 76 (.call 107 [.agg [64,65,66,67,68,69,70]] 77 [none]<|.done (77))<|.done (.bool false))<|.done (.bool false))<|Iq 64 18 75 (Iq 65 0 76 (Iq 67 0 77 (.call 107 [.agg [64,65,66,67,68,69,70]] 78 [none]<|.done (78))<|.done (.bool false))<|.done (.bool false))<|Iq 64 3 76 (Iq 65 0 77 (.call 107 [.agg [64,65,66,67,68,69,70]] 78 [none]<|.ite 78 (.call 108 [67,J 1,J 8] 79 [none]<|.done (79))<|.done (.bool false))<|.done (.bool false))<|Iq 64 19 77 (Iq 65 0 78 (.call 107 [.agg [64,65,66,67,68,69,70]] 79 [none]<|.ite 79 (.call 108 [67,J 1,J 8] 80 [none]<|.done (80))<|.done (.bool false))<|.done (.bool false))<|Iq 64 20 78 (Iq 65 0 79 (Iq 67 0 80 (.call 109 [.agg [64,65,66,67,68,69,70]] 81 [none]<|.done (81))<|.done (.bool false))<|.done (.bool false))<|Iq 64 21 79 (Iq 65 0 80 (Iq 67 0 81 (.call 109 [.agg [64,65,66,67,68,69,70]] 82 [none]<|.done (82))<|.done (.bool false))<|.done (.bool false))<|Iq 64 22 80 (.call 108 [65,J 6,J 12] 81 [none]<|.ite 81 (.call 107 [.agg [64,65,66,67,68,69,70]] 82 [none]<|.ite 82 (.call 110 [65] 83 [none]<|Li Q9 [67,83] 84<|.done (84))<|.done (.bool false))<|.done (.bool false))<|Iq 64 23 81 (Iq 65 0 82 (Iq 66 0 83 (Li Q0 [67,J 0] 84<|.done (84))<|.done (.bool false))<|.done (.bool false))<|Iq 64 17 82 (Iq 66 0 83 (.call 108 [65,J 2,J 5] 84 [none]<|.ite 84 (.call 108 [67,J 2,J 5] 85 [none]<|.done (85))<|.done (.bool false))<|.done (.bool false))<|.call 111 [64] 83 [none,none]<|.call 108 [64,J 4,J 16] 85 [none]<|.ite 85 (Iq 66 0 86 (Iq 67 0 87 (.call 108 [65,83,84] 88 [none]<|.done (88))<|.done (.bool false))<|.done (.bool false))<|.done (.bool false)
def c74:VC:=⟨⟨[],[]⟩,[],[],0,true,[]⟩
def t74:VT:=It Q4 [64,J 1] 65 (It Q8 [64,J 5] 66 (.done (J 1))<|It Q4 [64,J 6] 67 (It Q8 [64,J 8] 68 (.done (J 4))<|Iq 64 9 69 (.done (J 3))<|Iq 64 10 70 (.done (J 3))<|Iq 64 11 71 (.done (J 2))<|Iq 64 12 72 (.done (J 2))<|.done (J 0))<|Iq 64 9 68 (.done (J 3))<|Iq 64 10 69 (.done (J 3))<|Iq 64 11 70 (.done (J 2))<|Iq 64 12 71 (.done (J 2))<|.done (J 0))<|It Q4 [64,J 6] 66 (It Q8 [64,J 8] 67 (.done (J 4))<|Iq 64 9 68 (.done (J 3))<|Iq 64 10 69 (.done (J 3))<|Iq 64 11 70 (.done (J 2))<|Iq 64 12 71 (.done (J 2))<|.done (J 0))<|Iq 64 9 67 (.done (J 3))<|Iq 64 10 68 (.done (J 3))<|Iq 64 11 69 (.done (J 2))<|Iq 64 12 70 (.done (J 2))<|.done (J 0)
section
variable {Q:AV->Prop} {L:List (Nat->List AV->Prop)} {Y:Sy}
theorem bE {p q:Prop} [Decidable p] [Decidable q] (h:p↔q):AV.bool (decide p)=AV.bool (decide q):=congrArg AV.bool (decide_eq_decide.2 h)
theorem bT {q:Prop} [Decidable q] (h:q):AV.bool true=AV.bool (decide q):=congrArg AV.bool (decide_eq_true h).symm
theorem bF {q:Prop} [Decidable q] (h:¬q):AV.bool false=AV.bool (decide q):=congrArg AV.bool (decide_eq_false h).symm
theorem bN {p q:Prop} [Decidable p] [Decidable q] (h:¬p↔q):AV.bool (!decide p)=AV.bool (decide q):=by rw [←decide_not];exact bE h
theorem dT {p:Prop} [Decidable p] (h:decide p=true):p:=of_decide_eq_true h
theorem dF {p:Prop} [Decidable p] (h:decide p=false):¬p:=of_decide_eq_false h
end
def OkV (k i:Int) (f:Nat):Prop:=(k=5/\i=0)\/(f=0/\((k=1/\(i=0\/i=1))\/(k=2/\ -32768<=i/\i<=32767)\/(k=3/\ -2147483648<=i/\i<=2147483647)\/k=4))
instance (k i:Int) (f:Nat):Decidable (OkV k i f):=by unfold OkV;infer_instance
def loI (op:Int):Int:=if op=9\/op=10\/op=13\/op=14\/op=15 then 1 else 2
def hiI (op:Int):Int:=if op=13\/op=14\/op=15 then 1 else if op=8 then 4 else 5
def aQ_ (op kd ad n vk vi:Int) (vf:Nat):Prop:=(op=1/\ad=0/\n=0/\kd=vk/\OkV vk vi vf)\/(op≠1/\vk=0/\vi=0/\vf=0/\
 (((op=2\/op=18)/\kd=0/\n=0/\0<=ad/\ad<=63)\/((op=3\/op=19)/\kd=0/\0<=ad/\ad<=63/\1<=n/\n<=8)\/((op=20\/op=21)/\kd=0/\n=0/\0<=ad/\ad<=399)\/
  (op=22/\6<=kd/\kd<=12/\0<=ad/\ad<=63/\n=(if kd=11\/kd=12 then 1 else 2))\/(op=23/\kd=0/\ad=0/\n=0)\/(op=17/\ad=0/\2<=kd/\kd<=5/\2<=n/\n<=5)\/
  (4<=op/\op<=16/\ad=0/\n=0/\loI op<=kd/\kd<=hiI op)))
instance (op kd ad n vk vi:Int) (vf:Nat):Decidable (aQ_ op kd ad n vk vi vf):=by unfold aQ_;infer_instance
theorem c_ (n a b:Int):jw_ Tryz.prog 108 [.int .i64 n,.int .i64 a,.int .i64 b] (.bool (decide (a<=n/\n<=b))):=by refine t0_ (sh:=[none,none,none]) (ls:=[.int .i64 n,.int .i64 a,.int .i64 b]) (c:=AG_) (n:=300) (t:=z2_) mo ov rfl rfl rfl (λY _=>vu_ _) rfl (by kernel_rfl) λY hf hg=>?_;unfold z2_;refine VOK_lt (run_geq ..) rfl (u8_ rfl (λh=>VOK_lt (run_leq ..) rfl (uw_ (bE ?_))) (λh=>uw_ (bF ?_)));have:=dT h;omega;have:=dF h;omega
theorem Bf_ (g:GI):jw_ Tryz.prog 107 [.agg (g_ g)] (.bool (decide (0<=g.ad/\g.ad<=63))):=by refine t0_ (sh:=[some 7]) (ls:=g_ g) (c:=AF_) (n:=300) (t:=Bs_) mo ov rfl (W_ _) rfl (λY _=>vu_ _) rfl (by kernel_rfl) λY hf hg=>?_;exact uv_ (c_ _ _ _) rfl rfl (uw_ rfl)
theorem Bg_ (g:GI):jw_ Tryz.prog 109 [.agg (g_ g)] (.bool (decide (0<=g.ad/\g.ad<=399))):=by refine t0_ (sh:=[some 7]) (ls:=g_ g) (c:=AH_) (n:=300) (t:=Bt_) mo ov rfl (W_ _) rfl (λY _=>vu_ _) rfl (by kernel_rfl) λY hf hg=>?_;exact uv_ (c_ _ _ _) rfl rfl (uw_ rfl)
theorem iK {a b:Int} (h:a=b):AV.int .i64 a=AV.int .i64 b:=by rw [h]
theorem tK {a b c d:Int} (h:a=c) (h':b=d):AV.tup [.int .i64 a,.int .i64 b]=.tup [.int .i64 c,.int .i64 d]:=by rw [h,h']
theorem vS_ (k:Int):jw_ Tryz.prog 110 [.int .i64 k] (.int .i64 (if k=11\/k=12 then 1 else 2)):=by
 refine t0_ (sh:=[none]) (ls:=[.int .i64 k]) (c:=AI_) (n:=300) (t:=z3_) mo ov rfl rfl rfl (λY _=>vu_ _) rfl (by kernel_rfl) λY hf hg=>?_;unfold z3_;repeat' (refine b_ rfl rfl ?_ ?_<;>intro h<;>simp only [nc]at h<;>try omega)
 all_goals exact uw_ (iK (by split<;>omega))
theorem vT_ (op:Int):jw_ Tryz.prog 111 [.int .i64 op] (.tup [.int .i64 (loI op),.int .i64 (hiI op)]):=by
 refine t0_ (sh:=[none]) (ls:=[.int .i64 op]) (c:=AJ_) (n:=300) (t:=z4_) mo ov rfl rfl rfl (λY _=>vu_ _) rfl (by kernel_rfl) λY hf hg=>?_;unfold z4_;repeat' (refine b_ rfl rfl ?_ ?_<;>intro h<;>simp only [nc]at h<;>try omega)
 all_goals exact uw_ (tK (by unfold loI;split<;>omega) (by unfold hiI;(repeat' split)<;>omega))
theorem wf_ (n:Nat):(XOp.ext 159).run Tryz.prog [.flt .f64 n]=some (.int .u64 (n:Int)):=by kernel_rfl
theorem y8_ {n:Nat} (h:nM_ n=true):n≠0:=by unfold nM_ at h;have:=of_decide_eq_true h;omega
def xt_ (n:Nat):Int:=if nM_ n=true then 9221120237041090561 else (n:Int)
theorem wc_ (n:Nat):xt_ n=0↔n=0:=by unfold xt_;split;rename_i h;have:=y8_ h;omega;omega
theorem am_ (n:Nat):jw_ Tryz.prog 119 [.flt .f64 n] (.int .u64 (xt_ n)):=by refine t0_ (sh:=[none]) (ls:=[.flt .f64 n]) (c:=zi_) (n:=300) (t:=yp_) mo ov rfl rfl rfl (λY _=>vu_ _) rfl (by kernel_rfl) λY hf hg=>?_;unfold yp_;refine VOK_lt (ur_ ..) rfl (u8_ rfl (λh=>uw_ ?_) (λh=>VOK_lt (wf_ n) rfl (uw_ ?_)));have h:nM_ n=true:=h;exact congrArg (AV.int .u64) (if_pos h).symm;have h:nM_ n=false:=h;exact congrArg (AV.int .u64) (if_neg (by rw [h];exact Bool.false_ne_true)).symm
theorem vR_ (k i:Int) (f:Nat):jw_ Tryz.prog 106 [.agg [.int .i64 k,.int .i64 i,.flt .f64 f]] (.bool (decide (k=0/\i=0/\f=0))):=by refine t0_ (sh:=[some 3]) (ls:=[.int .i64 k,.int .i64 i,.flt .f64 f]) (c:=AE_) (n:=300) (t:=z1_) mo ov rfl rfl rfl (λY _=>vu_ _) rfl (by kernel_rfl) λY hf hg=>?_;unfold z1_;refine VOK_lt (run_eql ..) rfl (u8_ rfl (λh=>?_) (λh=>uw_ (bF (by have:=dF h;omega))));refine VOK_lt (run_eql ..) rfl (u8_ rfl (λh2=>?_) (λh2=>uw_ (bF (by have:=dF h2;omega))));have h:=dT h;have h2:=dT h2;refine VOK_lt (ur_ ..) rfl (u8_ rfl (λhn=>uw_ (bF ?_)) (λhn=>VOK_lt (wf_ f) rfl (VOK_lt (run_eql ..) rfl (uw_ (bE ?_)))));have:=y8_ hn;omega;omega
theorem yt_ (i:Int):i=IntKind.i64.wrap (IntKind.i16.wrap i)↔(-32768<=i/\i<=32767):=by simp [IntKind.wrap,IntKind.bits,IntKind.signed];omega
theorem yu_ (i:Int):i=IntKind.i64.wrap (IntKind.i32.wrap i)↔(-2147483648<=i/\i<=2147483647):=by simp [IntKind.wrap,IntKind.bits,IntKind.signed];omega
theorem Be_ (k i:Int) (f:Nat):jw_ Tryz.prog 105 [.agg [.int .i64 k,.int .i64 i,.flt .f64 f]] (.bool (decide (OkV k i f))):=by refine t0_ (sh:=[some 3]) (ls:=[.int .i64 k,.int .i64 i,.flt .f64 f]) (c:=AD_) (n:=300) (t:=z0_) mo ov rfl rfl rfl (λY _=>vu_ _) rfl (by kernel_rfl) λY hf hg=>?_;unfold z0_;refine VOK_lt (run_eql ..) rfl (u8_ rfl (λh5=>VOK_lt (run_eql ..) rfl (uw_ (bE ?_))) (λh5=>?_));have:=dT h5;unfold OkV;omega;have h5:=dF h5;refine VOK_lt (ur_ ..) rfl (u8_ rfl (λhn=>uw_ (bF ?_)) (λhn=>VOK_lt (wf_ f) rfl (VOK_lt (run_neq ..) rfl (u8_ rfl (λh0=>uw_ (bF ?_)) (λh0=>?_)))));have:=y8_ hn;unfold OkV;omega;have h0:(!decide ((f:Int)=0))=true:=h0;simp only [Bool.not_eq_true',decide_eq_false_iff_not]at h0;unfold OkV;omega;have h0:(!decide ((f:Int)=0))=false:=h0;simp only [Bool.not_eq_false',decide_eq_true_eq]at h0;refine VOK_lt (run_eql ..) rfl (u8_ rfl (λh1=>?_) (λh1=>?_));have h1:=dT h1;refine VOK_lt (run_eql ..) rfl (u8_ rfl (λhi=>uw_ (bT ?_)) (λhi=>VOK_lt (run_eql ..) rfl (uw_ (bE ?_))));have:=dT hi;unfold OkV;omega;have:=dF hi;unfold OkV;omega;have h1:=dF h1;refine VOK_lt (run_eql ..) rfl (u8_ rfl (λh2=>?_) (λh2=>?_));have h2:=dT h2;refine VOK_lt (tz_ Tryz.underlying2 Tryz.underlying219 _) rfl (VOK_lt (tz_ Tryz.underlying219 Tryz.underlying2 _) rfl (VOK_lt (run_eql ..) rfl (uw_ (bE ((yt_ i).trans ?_)))));unfold OkV;omega;have h2:=dF h2;refine VOK_lt (run_eql ..) rfl (u8_ rfl (λh3=>?_) (λh3=>?_));have h3:=dT h3;refine VOK_lt (tz_ Tryz.underlying2 Tryz.underlying21 _) rfl (VOK_lt (tz_ Tryz.underlying21 Tryz.underlying2 _) rfl (VOK_lt (run_eql ..) rfl (uw_ (bE ((yu_ i).trans ?_)))));unfold OkV;omega;have h3:=dF h3;refine VOK_lt (run_eql ..) rfl (uw_ (bE ?_));unfold OkV;omega
section
variable {op kd ad n vk vi:Int} {vf:Nat}
theorem zz_ (h:op=1):aQ_ op kd ad n vk vi vf↔(ad=0/\n=0/\kd=vk/\OkV vk vi vf):=by unfold aQ_;exact ⟨λq=>q.elim (λq=>q.2) (λq=>absurd h q.1),λq=>.inl ⟨h,q⟩⟩
theorem pS_ (h:op≠1):aQ_ op kd ad n vk vi vf↔(vk=0/\vi=0/\vf=0/\
 (((op=2\/op=18)/\kd=0/\n=0/\0<=ad/\ad<=63)\/((op=3\/op=19)/\kd=0/\0<=ad/\ad<=63/\1<=n/\n<=8)\/((op=20\/op=21)/\kd=0/\n=0/\0<=ad/\ad<=399)\/
  (op=22/\6<=kd/\kd<=12/\0<=ad/\ad<=63/\n=(if kd=11\/kd=12 then 1 else 2))\/(op=23/\kd=0/\ad=0/\n=0)\/(op=17/\ad=0/\2<=kd/\kd<=5/\2<=n/\n<=5)\/
  (4<=op/\op<=16/\ad=0/\n=0/\loI op<=kd/\kd<=hiI op))):=by
 unfold aQ_;exact ⟨λq=>q.elim (λq=>absurd q.1 h) (λq=>q.2),λq=>.inr ⟨h,q⟩⟩
theorem zA_ (h:op=2\/op=18):aQ_ op kd ad n vk vi vf↔(vk=0/\vi=0/\vf=0/\kd=0/\n=0/\0<=ad/\ad<=63):=by refine (pS_ (by omega)).trans ⟨λq=>?_,λq=>⟨q.1,q.2.1,q.2.2.1,.inl ⟨h,q.2.2.2⟩⟩⟩;obtain ⟨a,b,c,d⟩:=q;refine ⟨a,b,c,?_⟩;rcases d with d|d|d|d|d|d|d<;>omega
theorem zB_ (h:op=3\/op=19):aQ_ op kd ad n vk vi vf↔(vk=0/\vi=0/\vf=0/\kd=0/\0<=ad/\ad<=63/\1<=n/\n<=8):=by refine (pS_ (by omega)).trans ⟨λq=>?_,λq=>⟨q.1,q.2.1,q.2.2.1,.inr (.inl ⟨h,q.2.2.2⟩)⟩⟩;obtain ⟨a,b,c,d⟩:=q;refine ⟨a,b,c,?_⟩;rcases d with d|d|d|d|d|d|d<;>omega
theorem yK_ (h:op=20\/op=21):aQ_ op kd ad n vk vi vf↔(vk=0/\vi=0/\vf=0/\kd=0/\n=0/\0<=ad/\ad<=399):=by refine (pS_ (by omega)).trans ⟨λq=>?_,λq=>⟨q.1,q.2.1,q.2.2.1,.inr (.inr (.inl ⟨h,q.2.2.2⟩))⟩⟩;obtain ⟨a,b,c,d⟩:=q;refine ⟨a,b,c,?_⟩;rcases d with d|d|d|d|d|d|d<;>omega
theorem yL_ (h:op=22):aQ_ op kd ad n vk vi vf↔(vk=0/\vi=0/\vf=0/\6<=kd/\kd<=12/\0<=ad/\ad<=63/\n=(if kd=11\/kd=12 then 1 else 2)):=by refine (pS_ (by omega)).trans ⟨λq=>?_,λq=>⟨q.1,q.2.1,q.2.2.1,.inr (.inr (.inr (.inl ⟨h,q.2.2.2⟩)))⟩⟩;obtain ⟨a,b,c,d⟩:=q;refine ⟨a,b,c,?_⟩;rcases d with d|d|d|d|d|d|d;omega;omega;omega;exact d.2;omega;omega;omega
theorem yM_ (h:op=23):aQ_ op kd ad n vk vi vf↔(vk=0/\vi=0/\vf=0/\kd=0/\ad=0/\n=0):=by refine (pS_ (by omega)).trans ⟨λq=>?_,λq=>⟨q.1,q.2.1,q.2.2.1,.inr (.inr (.inr (.inr (.inl ⟨h,q.2.2.2⟩))))⟩⟩;obtain ⟨a,b,c,d⟩:=q;refine ⟨a,b,c,?_⟩;rcases d with d|d|d|d|d|d|d<;>omega
theorem yJ_ (h:op=17):aQ_ op kd ad n vk vi vf↔(vk=0/\vi=0/\vf=0/\ad=0/\2<=kd/\kd<=5/\2<=n/\n<=5):=by refine (pS_ (by omega)).trans ⟨λq=>?_,λq=>⟨q.1,q.2.1,q.2.2.1,.inr (.inr (.inr (.inr (.inr (.inl ⟨h,q.2.2.2⟩)))))⟩⟩;obtain ⟨a,b,c,d⟩:=q;refine ⟨a,b,c,?_⟩;rcases d with d|d|d|d|d|d|d<;>omega
theorem wy_ (lo hi:Int) (h:4<=op/\op<=16) (hl:loI op=lo) (hh:hiI op=hi):aQ_ op kd ad n vk vi vf↔(vk=0/\vi=0/\vf=0/\ad=0/\n=0/\lo<=kd/\kd<=hi):=by subst hl hh;refine (pS_ (by omega)).trans ⟨λq=>?_,λq=>⟨q.1,q.2.1,q.2.2.1,.inr (.inr (.inr (.inr (.inr (.inr ⟨h.1,h.2,q.2.2.2⟩)))))⟩⟩;obtain ⟨a,b,c,d⟩:=q;refine ⟨a,b,c,?_⟩;rcases d with d|d|d|d|d|d|d<;>omega
theorem zC_ (h:op<1\/23<op):aQ_ op kd ad n vk vi vf↔False:=by refine (pS_ (by omega)).trans ⟨λq=>?_,λq=>q.elim⟩;obtain ⟨a,b,c,d⟩:=q;rcases d with d|d|d|d|d|d|d<;>omega
theorem ops (op:Int):op=1\/(op=2\/op=18)\/(op=3\/op=19)\/(op=20\/op=21)\/op=22\/op=23\/op=17\/(op=9\/op=10)\/(op=13\/op=14\/op=15)\/op=8\/(op=4\/op=5\/op=6\/op=7\/op=11\/op=12\/op=16)\/(op<1\/23<op):=by omega
end
theorem lo9 {op:Int} (h:op=9\/op=10):loI op=1/\hiI op=5:=by rcases h with rfl|rfl<;>exact ⟨rfl,rfl⟩
theorem zy_ {op:Int} (h:op=13\/op=14\/op=15):loI op=1/\hiI op=1:=by rcases h with rfl|rfl|rfl<;>exact ⟨rfl,rfl⟩
theorem lo4 {op:Int} (h:op=4\/op=5\/op=6\/op=7\/op=11\/op=12\/op=16):loI op=2/\hiI op=5:=by rcases h with rfl|rfl|rfl|rfl|rfl|rfl|rfl<;>exact ⟨rfl,rfl⟩
set_option maxHeartbeats 4000000 in
theorem p63 (g:GI):jw_ Tryz.prog 63 [.agg (g_ g)] (.bool (decide (aQ_ g.op g.kd g.ad g.n g.vk g.vi g.vf))):=by
 obtain ⟨op,kd,ad,n,vk,vi,vf⟩:=g;refine t0_ (sh:=[some 7]) (ls:=g_ ⟨op,kd,ad,n,vk,vi,vf⟩) (c:=c63) (n:=300) (t:=t63) mo ov rfl (W_ _) rfl (λY _=>vu_ _) rfl (by kernel_rfl) λY hf hg=>?_;show VOK _ (· =AV.bool (decide (aQ_ op kd ad n vk vi vf))) _ _ _;have hc:=Bf_ ⟨op,kd,ad,n,vk,vi,vf⟩;have hd:=Bg_ ⟨op,kd,ad,n,vk,vi,vf⟩;simp only at hc hd;have hz0:(!decide (vk=0/\vi=0/\vf=0))=true->(vk=0/\vi=0/\vf=0)->False:=λh q=>by rw [decide_eq_true q]at h;cases h
 have hz1:(!decide (vk=0/\vi=0/\vf=0))=false->(vk=0/\vi=0/\vf=0):=λh=>by simpa using h
 unfold t63;rcases ops op with h|h|h|h|h|h|h|h|h|h|h|h
 .rw [decide_eq_decide.2 (zz_ h)];refine b_ rfl rfl (λh1=>?_) (λh1=>absurd h h1);repeat' (refine b_ rfl rfl ?_ ?_<;>intro h<;>simp only [nc]at h<;>try omega)
  refine uv_ (Be_ vk vi vf) rfl rfl (uw_ ?_);exact bE ⟨λh=>⟨by omega,by omega,by omega,h⟩,λh=>h.2.2.2⟩;all_goals exact uw_ (bF λq=>by omega)
 .rw [decide_eq_decide.2 (zA_ h)];(
                                    refine b_ rfl rfl (λq1=>?_) (λq1=>?_)<;>simp only [nc]at q1
                                    exfalso;omega;refine uv_ (vR_ vk vi vf) rfl rfl (VOK_lt (vj_ ..) rfl (u8_ rfl (λhz=>uw_ (bF λq=>hz0 hz (by first|omega|exact q.elim))) (λhz=>?_)));obtain ⟨z1,z2,z3⟩:=hz1 hz;repeat' first
                                     |(refine b_ rfl rfl ?_ ?_<;>intro h<;>simp only [nc]at h<;>try omega)
                                     |(refine uv_ hc rfl rfl (u8_ rfl ?_ ?_)<;>intro h<;>(first|replace h:=dT h|replace h:=dF h))
                                     |(refine uv_ (c_ kd 6 12) rfl rfl (u8_ rfl ?_ ?_)<;>intro h<;>(first|replace h:=dT h|replace h:=dF h))
                                     |(refine uv_ (c_ kd 2 5) rfl rfl (u8_ rfl ?_ ?_)<;>intro h<;>(first|replace h:=dT h|replace h:=dF h))
                                     |(refine uv_ (c_ op 4 16) rfl rfl (u8_ rfl ?_ ?_)<;>intro h<;>(first|replace h:=dT h|replace h:=dF h))
                                     |(refine uw_ (bF ?_);omega)
                                     |exact uw_ (bF id)
                                     |(refine VOK_lt (run_eql ..) rfl (uw_ (bE ?_));omega)
                                     |(refine VOK_lt (run_eql ..) rfl (uw_ (bE ?_));dsimp only;omega)
                                     |(refine VOK_lt (run_eql ..) rfl (uw_ (bE ?_));dsimp only;exact ⟨λq=>⟨z1,z2,z3,by omega,by omega,by omega,by omega,q⟩,λq=>q.2.2.2.2.2.2.2⟩)
                                     |(refine uv_ hc rfl rfl (uw_ (bE ?_));omega)
                                     |(refine uv_ hd rfl rfl (uw_ (bE ?_));omega)
                                     |(refine uv_ (c_ n 1 8) rfl rfl (uw_ (bE ?_));omega)
                                     |(refine uv_ (c_ n 2 5) rfl rfl (uw_ (bE ?_));omega)
                                     |(refine uv_ (c_ kd 1 5) rfl rfl (uw_ (bE ?_));omega)
                                     |(refine uv_ (c_ kd 1 1) rfl rfl (uw_ (bE ?_));omega)
                                     |(refine uv_ (c_ kd 2 4) rfl rfl (uw_ (bE ?_));omega)
                                     |(refine uv_ (c_ kd 2 5) rfl rfl (uw_ (bE ?_));omega)
                                     |(refine uv_ (c_ kd (loI op) (hiI op)) rfl rfl (uw_ (bE ?_));omega)
                                     |refine uv_ (vS_ kd) rfl rfl ?_
                                     |refine uv_ (vT_ op) rfl rfl ?_)
 .rw [decide_eq_decide.2 (zB_ h)];(
                                    refine b_ rfl rfl (λq1=>?_) (λq1=>?_)<;>simp only [nc]at q1
                                    exfalso;omega;refine uv_ (vR_ vk vi vf) rfl rfl (VOK_lt (vj_ ..) rfl (u8_ rfl (λhz=>uw_ (bF λq=>hz0 hz (by first|omega|exact q.elim))) (λhz=>?_)));obtain ⟨z1,z2,z3⟩:=hz1 hz;repeat' first
                                     |(refine b_ rfl rfl ?_ ?_<;>intro h<;>simp only [nc]at h<;>try omega)
                                     |(refine uv_ hc rfl rfl (u8_ rfl ?_ ?_)<;>intro h<;>(first|replace h:=dT h|replace h:=dF h))
                                     |(refine uv_ (c_ kd 6 12) rfl rfl (u8_ rfl ?_ ?_)<;>intro h<;>(first|replace h:=dT h|replace h:=dF h))
                                     |(refine uv_ (c_ kd 2 5) rfl rfl (u8_ rfl ?_ ?_)<;>intro h<;>(first|replace h:=dT h|replace h:=dF h))
                                     |(refine uv_ (c_ op 4 16) rfl rfl (u8_ rfl ?_ ?_)<;>intro h<;>(first|replace h:=dT h|replace h:=dF h))
                                     |(refine uw_ (bF ?_);omega)
                                     |exact uw_ (bF id)
                                     |(refine VOK_lt (run_eql ..) rfl (uw_ (bE ?_));omega)
                                     |(refine VOK_lt (run_eql ..) rfl (uw_ (bE ?_));dsimp only;omega)
                                     |(refine VOK_lt (run_eql ..) rfl (uw_ (bE ?_));dsimp only;exact ⟨λq=>⟨z1,z2,z3,by omega,by omega,by omega,by omega,q⟩,λq=>q.2.2.2.2.2.2.2⟩)
                                     |(refine uv_ hc rfl rfl (uw_ (bE ?_));omega)
                                     |(refine uv_ hd rfl rfl (uw_ (bE ?_));omega)
                                     |(refine uv_ (c_ n 1 8) rfl rfl (uw_ (bE ?_));omega)
                                     |(refine uv_ (c_ n 2 5) rfl rfl (uw_ (bE ?_));omega)
                                     |(refine uv_ (c_ kd 1 5) rfl rfl (uw_ (bE ?_));omega)
                                     |(refine uv_ (c_ kd 1 1) rfl rfl (uw_ (bE ?_));omega)
                                     |(refine uv_ (c_ kd 2 4) rfl rfl (uw_ (bE ?_));omega)
                                     |(refine uv_ (c_ kd 2 5) rfl rfl (uw_ (bE ?_));omega)
                                     |(refine uv_ (c_ kd (loI op) (hiI op)) rfl rfl (uw_ (bE ?_));omega)
                                     |refine uv_ (vS_ kd) rfl rfl ?_
                                     |refine uv_ (vT_ op) rfl rfl ?_)
 .rw [decide_eq_decide.2 (yK_ h)];(
                                     refine b_ rfl rfl (λq1=>?_) (λq1=>?_)<;>simp only [nc]at q1
                                     exfalso;omega;refine uv_ (vR_ vk vi vf) rfl rfl (VOK_lt (vj_ ..) rfl (u8_ rfl (λhz=>uw_ (bF λq=>hz0 hz (by first|omega|exact q.elim))) (λhz=>?_)));obtain ⟨z1,z2,z3⟩:=hz1 hz;repeat' first
                                      |(refine b_ rfl rfl ?_ ?_<;>intro h<;>simp only [nc]at h<;>try omega)
                                      |(refine uv_ hc rfl rfl (u8_ rfl ?_ ?_)<;>intro h<;>(first|replace h:=dT h|replace h:=dF h))
                                      |(refine uv_ (c_ kd 6 12) rfl rfl (u8_ rfl ?_ ?_)<;>intro h<;>(first|replace h:=dT h|replace h:=dF h))
                                      |(refine uv_ (c_ kd 2 5) rfl rfl (u8_ rfl ?_ ?_)<;>intro h<;>(first|replace h:=dT h|replace h:=dF h))
                                      |(refine uv_ (c_ op 4 16) rfl rfl (u8_ rfl ?_ ?_)<;>intro h<;>(first|replace h:=dT h|replace h:=dF h))
                                      |(refine uw_ (bF ?_);omega)
                                      |exact uw_ (bF id)
                                      |(refine VOK_lt (run_eql ..) rfl (uw_ (bE ?_));omega)
                                      |(refine VOK_lt (run_eql ..) rfl (uw_ (bE ?_));dsimp only;omega)
                                      |(refine VOK_lt (run_eql ..) rfl (uw_ (bE ?_));dsimp only;exact ⟨λq=>⟨z1,z2,z3,by omega,by omega,by omega,by omega,q⟩,λq=>q.2.2.2.2.2.2.2⟩)
                                      |(refine uv_ hc rfl rfl (uw_ (bE ?_));omega)
                                      |(refine uv_ hd rfl rfl (uw_ (bE ?_));omega)
                                      |(refine uv_ (c_ n 1 8) rfl rfl (uw_ (bE ?_));omega)
                                      |(refine uv_ (c_ n 2 5) rfl rfl (uw_ (bE ?_));omega)
                                      |(refine uv_ (c_ kd 1 5) rfl rfl (uw_ (bE ?_));omega)
                                      |(refine uv_ (c_ kd 1 1) rfl rfl (uw_ (bE ?_));omega)
                                      |(refine uv_ (c_ kd 2 4) rfl rfl (uw_ (bE ?_));omega)
                                      |(refine uv_ (c_ kd 2 5) rfl rfl (uw_ (bE ?_));omega)
                                      |(refine uv_ (c_ kd (loI op) (hiI op)) rfl rfl (uw_ (bE ?_));omega)
                                      |refine uv_ (vS_ kd) rfl rfl ?_
                                      |refine uv_ (vT_ op) rfl rfl ?_)
 .rw [decide_eq_decide.2 (yL_ h)];(
                                     refine b_ rfl rfl (λq1=>?_) (λq1=>?_)<;>simp only [nc]at q1
                                     exfalso;omega;refine uv_ (vR_ vk vi vf) rfl rfl (VOK_lt (vj_ ..) rfl (u8_ rfl (λhz=>uw_ (bF λq=>hz0 hz (by first|omega|exact q.elim))) (λhz=>?_)));obtain ⟨z1,z2,z3⟩:=hz1 hz;repeat' first
                                      |(refine b_ rfl rfl ?_ ?_<;>intro h<;>simp only [nc]at h<;>try omega)
                                      |(refine uv_ hc rfl rfl (u8_ rfl ?_ ?_)<;>intro h<;>(first|replace h:=dT h|replace h:=dF h))
                                      |(refine uv_ (c_ kd 6 12) rfl rfl (u8_ rfl ?_ ?_)<;>intro h<;>(first|replace h:=dT h|replace h:=dF h))
                                      |(refine uv_ (c_ kd 2 5) rfl rfl (u8_ rfl ?_ ?_)<;>intro h<;>(first|replace h:=dT h|replace h:=dF h))
                                      |(refine uv_ (c_ op 4 16) rfl rfl (u8_ rfl ?_ ?_)<;>intro h<;>(first|replace h:=dT h|replace h:=dF h))
                                      |(refine uw_ (bF ?_);omega)
                                      |exact uw_ (bF id)
                                      |(refine VOK_lt (run_eql ..) rfl (uw_ (bE ?_));omega)
                                      |(refine VOK_lt (run_eql ..) rfl (uw_ (bE ?_));dsimp only;omega)
                                      |(refine VOK_lt (run_eql ..) rfl (uw_ (bE ?_));dsimp only;exact ⟨λq=>⟨z1,z2,z3,by omega,by omega,by omega,by omega,q⟩,λq=>q.2.2.2.2.2.2.2⟩)
                                      |(refine uv_ hc rfl rfl (uw_ (bE ?_));omega)
                                      |(refine uv_ hd rfl rfl (uw_ (bE ?_));omega)
                                      |(refine uv_ (c_ n 1 8) rfl rfl (uw_ (bE ?_));omega)
                                      |(refine uv_ (c_ n 2 5) rfl rfl (uw_ (bE ?_));omega)
                                      |(refine uv_ (c_ kd 1 5) rfl rfl (uw_ (bE ?_));omega)
                                      |(refine uv_ (c_ kd 1 1) rfl rfl (uw_ (bE ?_));omega)
                                      |(refine uv_ (c_ kd 2 4) rfl rfl (uw_ (bE ?_));omega)
                                      |(refine uv_ (c_ kd 2 5) rfl rfl (uw_ (bE ?_));omega)
                                      |(refine uv_ (c_ kd (loI op) (hiI op)) rfl rfl (uw_ (bE ?_));omega)
                                      |refine uv_ (vS_ kd) rfl rfl ?_
                                      |refine uv_ (vT_ op) rfl rfl ?_)
 .rw [decide_eq_decide.2 (yM_ h)];(
                                     refine b_ rfl rfl (λq1=>?_) (λq1=>?_)<;>simp only [nc]at q1
                                     exfalso;omega;refine uv_ (vR_ vk vi vf) rfl rfl (VOK_lt (vj_ ..) rfl (u8_ rfl (λhz=>uw_ (bF λq=>hz0 hz (by first|omega|exact q.elim))) (λhz=>?_)));obtain ⟨z1,z2,z3⟩:=hz1 hz;repeat' first
                                      |(refine b_ rfl rfl ?_ ?_<;>intro h<;>simp only [nc]at h<;>try omega)
                                      |(refine uv_ hc rfl rfl (u8_ rfl ?_ ?_)<;>intro h<;>(first|replace h:=dT h|replace h:=dF h))
                                      |(refine uv_ (c_ kd 6 12) rfl rfl (u8_ rfl ?_ ?_)<;>intro h<;>(first|replace h:=dT h|replace h:=dF h))
                                      |(refine uv_ (c_ kd 2 5) rfl rfl (u8_ rfl ?_ ?_)<;>intro h<;>(first|replace h:=dT h|replace h:=dF h))
                                      |(refine uv_ (c_ op 4 16) rfl rfl (u8_ rfl ?_ ?_)<;>intro h<;>(first|replace h:=dT h|replace h:=dF h))
                                      |(refine uw_ (bF ?_);omega)
                                      |exact uw_ (bF id)
                                      |(refine VOK_lt (run_eql ..) rfl (uw_ (bE ?_));omega)
                                      |(refine VOK_lt (run_eql ..) rfl (uw_ (bE ?_));dsimp only;omega)
                                      |(refine VOK_lt (run_eql ..) rfl (uw_ (bE ?_));dsimp only;exact ⟨λq=>⟨z1,z2,z3,by omega,by omega,by omega,by omega,q⟩,λq=>q.2.2.2.2.2.2.2⟩)
                                      |(refine uv_ hc rfl rfl (uw_ (bE ?_));omega)
                                      |(refine uv_ hd rfl rfl (uw_ (bE ?_));omega)
                                      |(refine uv_ (c_ n 1 8) rfl rfl (uw_ (bE ?_));omega)
                                      |(refine uv_ (c_ n 2 5) rfl rfl (uw_ (bE ?_));omega)
                                      |(refine uv_ (c_ kd 1 5) rfl rfl (uw_ (bE ?_));omega)
                                      |(refine uv_ (c_ kd 1 1) rfl rfl (uw_ (bE ?_));omega)
                                      |(refine uv_ (c_ kd 2 4) rfl rfl (uw_ (bE ?_));omega)
                                      |(refine uv_ (c_ kd 2 5) rfl rfl (uw_ (bE ?_));omega)
                                      |(refine uv_ (c_ kd (loI op) (hiI op)) rfl rfl (uw_ (bE ?_));omega)
                                      |refine uv_ (vS_ kd) rfl rfl ?_
                                      |refine uv_ (vT_ op) rfl rfl ?_)
 .rw [decide_eq_decide.2 (yJ_ h)];(
                                     refine b_ rfl rfl (λq1=>?_) (λq1=>?_)<;>simp only [nc]at q1
                                     exfalso;omega;refine uv_ (vR_ vk vi vf) rfl rfl (VOK_lt (vj_ ..) rfl (u8_ rfl (λhz=>uw_ (bF λq=>hz0 hz (by first|omega|exact q.elim))) (λhz=>?_)));obtain ⟨z1,z2,z3⟩:=hz1 hz;repeat' first
                                      |(refine b_ rfl rfl ?_ ?_<;>intro h<;>simp only [nc]at h<;>try omega)
                                      |(refine uv_ hc rfl rfl (u8_ rfl ?_ ?_)<;>intro h<;>(first|replace h:=dT h|replace h:=dF h))
                                      |(refine uv_ (c_ kd 6 12) rfl rfl (u8_ rfl ?_ ?_)<;>intro h<;>(first|replace h:=dT h|replace h:=dF h))
                                      |(refine uv_ (c_ kd 2 5) rfl rfl (u8_ rfl ?_ ?_)<;>intro h<;>(first|replace h:=dT h|replace h:=dF h))
                                      |(refine uv_ (c_ op 4 16) rfl rfl (u8_ rfl ?_ ?_)<;>intro h<;>(first|replace h:=dT h|replace h:=dF h))
                                      |(refine uw_ (bF ?_);omega)
                                      |exact uw_ (bF id)
                                      |(refine VOK_lt (run_eql ..) rfl (uw_ (bE ?_));omega)
                                      |(refine VOK_lt (run_eql ..) rfl (uw_ (bE ?_));dsimp only;omega)
                                      |(refine VOK_lt (run_eql ..) rfl (uw_ (bE ?_));dsimp only;exact ⟨λq=>⟨z1,z2,z3,by omega,by omega,by omega,by omega,q⟩,λq=>q.2.2.2.2.2.2.2⟩)
                                      |(refine uv_ hc rfl rfl (uw_ (bE ?_));omega)
                                      |(refine uv_ hd rfl rfl (uw_ (bE ?_));omega)
                                      |(refine uv_ (c_ n 1 8) rfl rfl (uw_ (bE ?_));omega)
                                      |(refine uv_ (c_ n 2 5) rfl rfl (uw_ (bE ?_));omega)
                                      |(refine uv_ (c_ kd 1 5) rfl rfl (uw_ (bE ?_));omega)
                                      |(refine uv_ (c_ kd 1 1) rfl rfl (uw_ (bE ?_));omega)
                                      |(refine uv_ (c_ kd 2 4) rfl rfl (uw_ (bE ?_));omega)
                                      |(refine uv_ (c_ kd 2 5) rfl rfl (uw_ (bE ?_));omega)
                                      |(refine uv_ (c_ kd (loI op) (hiI op)) rfl rfl (uw_ (bE ?_));omega)
                                      |refine uv_ (vS_ kd) rfl rfl ?_
                                      |refine uv_ (vT_ op) rfl rfl ?_)
 .obtain ⟨e1,e2⟩:=lo9 h
  rw [decide_eq_decide.2 (wy_ 1 5 (by omega) e1 e2)];(
                                                       refine b_ rfl rfl (λq1=>?_) (λq1=>?_)<;>simp only [nc]at q1
                                                       exfalso;omega;refine uv_ (vR_ vk vi vf) rfl rfl (VOK_lt (vj_ ..) rfl (u8_ rfl (λhz=>uw_ (bF λq=>hz0 hz (by first|omega|exact q.elim))) (λhz=>?_)));obtain ⟨z1,z2,z3⟩:=hz1 hz;repeat' first
                                                        |(refine b_ rfl rfl ?_ ?_<;>intro h<;>simp only [nc]at h<;>try omega)
                                                        |(refine uv_ hc rfl rfl (u8_ rfl ?_ ?_)<;>intro h<;>(first|replace h:=dT h|replace h:=dF h))
                                                        |(refine uv_ (c_ kd 6 12) rfl rfl (u8_ rfl ?_ ?_)<;>intro h<;>(first|replace h:=dT h|replace h:=dF h))
                                                        |(refine uv_ (c_ kd 2 5) rfl rfl (u8_ rfl ?_ ?_)<;>intro h<;>(first|replace h:=dT h|replace h:=dF h))
                                                        |(refine uv_ (c_ op 4 16) rfl rfl (u8_ rfl ?_ ?_)<;>intro h<;>(first|replace h:=dT h|replace h:=dF h))
                                                        |(refine uw_ (bF ?_);omega)
                                                        |exact uw_ (bF id)
                                                        |(refine VOK_lt (run_eql ..) rfl (uw_ (bE ?_));omega)
                                                        |(refine VOK_lt (run_eql ..) rfl (uw_ (bE ?_));dsimp only;omega)
                                                        |(refine VOK_lt (run_eql ..) rfl (uw_ (bE ?_));dsimp only;exact ⟨λq=>⟨z1,z2,z3,by omega,by omega,by omega,by omega,q⟩,λq=>q.2.2.2.2.2.2.2⟩)
                                                        |(refine uv_ hc rfl rfl (uw_ (bE ?_));omega)
                                                        |(refine uv_ hd rfl rfl (uw_ (bE ?_));omega)
                                                        |(refine uv_ (c_ n 1 8) rfl rfl (uw_ (bE ?_));omega)
                                                        |(refine uv_ (c_ n 2 5) rfl rfl (uw_ (bE ?_));omega)
                                                        |(refine uv_ (c_ kd 1 5) rfl rfl (uw_ (bE ?_));omega)
                                                        |(refine uv_ (c_ kd 1 1) rfl rfl (uw_ (bE ?_));omega)
                                                        |(refine uv_ (c_ kd 2 4) rfl rfl (uw_ (bE ?_));omega)
                                                        |(refine uv_ (c_ kd 2 5) rfl rfl (uw_ (bE ?_));omega)
                                                        |(refine uv_ (c_ kd (loI op) (hiI op)) rfl rfl (uw_ (bE ?_));omega)
                                                        |refine uv_ (vS_ kd) rfl rfl ?_
                                                        |refine uv_ (vT_ op) rfl rfl ?_)
 .obtain ⟨e1,e2⟩:=zy_ h
  rw [decide_eq_decide.2 (wy_ 1 1 (by omega) e1 e2)];(
                                                       refine b_ rfl rfl (λq1=>?_) (λq1=>?_)<;>simp only [nc]at q1
                                                       exfalso;omega;refine uv_ (vR_ vk vi vf) rfl rfl (VOK_lt (vj_ ..) rfl (u8_ rfl (λhz=>uw_ (bF λq=>hz0 hz (by first|omega|exact q.elim))) (λhz=>?_)));obtain ⟨z1,z2,z3⟩:=hz1 hz;repeat' first
                                                        |(refine b_ rfl rfl ?_ ?_<;>intro h<;>simp only [nc]at h<;>try omega)
                                                        |(refine uv_ hc rfl rfl (u8_ rfl ?_ ?_)<;>intro h<;>(first|replace h:=dT h|replace h:=dF h))
                                                        |(refine uv_ (c_ kd 6 12) rfl rfl (u8_ rfl ?_ ?_)<;>intro h<;>(first|replace h:=dT h|replace h:=dF h))
                                                        |(refine uv_ (c_ kd 2 5) rfl rfl (u8_ rfl ?_ ?_)<;>intro h<;>(first|replace h:=dT h|replace h:=dF h))
                                                        |(refine uv_ (c_ op 4 16) rfl rfl (u8_ rfl ?_ ?_)<;>intro h<;>(first|replace h:=dT h|replace h:=dF h))
                                                        |(refine uw_ (bF ?_);omega)
                                                        |exact uw_ (bF id)
                                                        |(refine VOK_lt (run_eql ..) rfl (uw_ (bE ?_));omega)
                                                        |(refine VOK_lt (run_eql ..) rfl (uw_ (bE ?_));dsimp only;omega)
                                                        |(refine VOK_lt (run_eql ..) rfl (uw_ (bE ?_));dsimp only;exact ⟨λq=>⟨z1,z2,z3,by omega,by omega,by omega,by omega,q⟩,λq=>q.2.2.2.2.2.2.2⟩)
                                                        |(refine uv_ hc rfl rfl (uw_ (bE ?_));omega)
                                                        |(refine uv_ hd rfl rfl (uw_ (bE ?_));omega)
                                                        |(refine uv_ (c_ n 1 8) rfl rfl (uw_ (bE ?_));omega)
                                                        |(refine uv_ (c_ n 2 5) rfl rfl (uw_ (bE ?_));omega)
                                                        |(refine uv_ (c_ kd 1 5) rfl rfl (uw_ (bE ?_));omega)
                                                        |(refine uv_ (c_ kd 1 1) rfl rfl (uw_ (bE ?_));omega)
                                                        |(refine uv_ (c_ kd 2 4) rfl rfl (uw_ (bE ?_));omega)
                                                        |(refine uv_ (c_ kd 2 5) rfl rfl (uw_ (bE ?_));omega)
                                                        |(refine uv_ (c_ kd (loI op) (hiI op)) rfl rfl (uw_ (bE ?_));omega)
                                                        |refine uv_ (vS_ kd) rfl rfl ?_
                                                        |refine uv_ (vT_ op) rfl rfl ?_)
 .have e1:loI op=2:=(by rw [h];rfl);have e2:hiI op=4:=(by rw [h];rfl)
  rw [decide_eq_decide.2 (wy_ 2 4 (by omega) e1 e2)];(
                                                       refine b_ rfl rfl (λq1=>?_) (λq1=>?_)<;>simp only [nc]at q1
                                                       exfalso;omega;refine uv_ (vR_ vk vi vf) rfl rfl (VOK_lt (vj_ ..) rfl (u8_ rfl (λhz=>uw_ (bF λq=>hz0 hz (by first|omega|exact q.elim))) (λhz=>?_)));obtain ⟨z1,z2,z3⟩:=hz1 hz;repeat' first
                                                        |(refine b_ rfl rfl ?_ ?_<;>intro h<;>simp only [nc]at h<;>try omega)
                                                        |(refine uv_ hc rfl rfl (u8_ rfl ?_ ?_)<;>intro h<;>(first|replace h:=dT h|replace h:=dF h))
                                                        |(refine uv_ (c_ kd 6 12) rfl rfl (u8_ rfl ?_ ?_)<;>intro h<;>(first|replace h:=dT h|replace h:=dF h))
                                                        |(refine uv_ (c_ kd 2 5) rfl rfl (u8_ rfl ?_ ?_)<;>intro h<;>(first|replace h:=dT h|replace h:=dF h))
                                                        |(refine uv_ (c_ op 4 16) rfl rfl (u8_ rfl ?_ ?_)<;>intro h<;>(first|replace h:=dT h|replace h:=dF h))
                                                        |(refine uw_ (bF ?_);omega)
                                                        |exact uw_ (bF id)
                                                        |(refine VOK_lt (run_eql ..) rfl (uw_ (bE ?_));omega)
                                                        |(refine VOK_lt (run_eql ..) rfl (uw_ (bE ?_));dsimp only;omega)
                                                        |(refine VOK_lt (run_eql ..) rfl (uw_ (bE ?_));dsimp only;exact ⟨λq=>⟨z1,z2,z3,by omega,by omega,by omega,by omega,q⟩,λq=>q.2.2.2.2.2.2.2⟩)
                                                        |(refine uv_ hc rfl rfl (uw_ (bE ?_));omega)
                                                        |(refine uv_ hd rfl rfl (uw_ (bE ?_));omega)
                                                        |(refine uv_ (c_ n 1 8) rfl rfl (uw_ (bE ?_));omega)
                                                        |(refine uv_ (c_ n 2 5) rfl rfl (uw_ (bE ?_));omega)
                                                        |(refine uv_ (c_ kd 1 5) rfl rfl (uw_ (bE ?_));omega)
                                                        |(refine uv_ (c_ kd 1 1) rfl rfl (uw_ (bE ?_));omega)
                                                        |(refine uv_ (c_ kd 2 4) rfl rfl (uw_ (bE ?_));omega)
                                                        |(refine uv_ (c_ kd 2 5) rfl rfl (uw_ (bE ?_));omega)
                                                        |(refine uv_ (c_ kd (loI op) (hiI op)) rfl rfl (uw_ (bE ?_));omega)
                                                        |refine uv_ (vS_ kd) rfl rfl ?_
                                                        |refine uv_ (vT_ op) rfl rfl ?_)
 .obtain ⟨e1,e2⟩:=lo4 h
  rw [decide_eq_decide.2 (wy_ 2 5 (by omega) e1 e2)];(
                                                       refine b_ rfl rfl (λq1=>?_) (λq1=>?_)<;>simp only [nc]at q1
                                                       exfalso;omega;refine uv_ (vR_ vk vi vf) rfl rfl (VOK_lt (vj_ ..) rfl (u8_ rfl (λhz=>uw_ (bF λq=>hz0 hz (by first|omega|exact q.elim))) (λhz=>?_)));obtain ⟨z1,z2,z3⟩:=hz1 hz;repeat' first
                                                        |(refine b_ rfl rfl ?_ ?_<;>intro h<;>simp only [nc]at h<;>try omega)
                                                        |(refine uv_ hc rfl rfl (u8_ rfl ?_ ?_)<;>intro h<;>(first|replace h:=dT h|replace h:=dF h))
                                                        |(refine uv_ (c_ kd 6 12) rfl rfl (u8_ rfl ?_ ?_)<;>intro h<;>(first|replace h:=dT h|replace h:=dF h))
                                                        |(refine uv_ (c_ kd 2 5) rfl rfl (u8_ rfl ?_ ?_)<;>intro h<;>(first|replace h:=dT h|replace h:=dF h))
                                                        |(refine uv_ (c_ op 4 16) rfl rfl (u8_ rfl ?_ ?_)<;>intro h<;>(first|replace h:=dT h|replace h:=dF h))
                                                        |(refine uw_ (bF ?_);omega)
                                                        |exact uw_ (bF id)
                                                        |(refine VOK_lt (run_eql ..) rfl (uw_ (bE ?_));omega)
                                                        |(refine VOK_lt (run_eql ..) rfl (uw_ (bE ?_));dsimp only;omega)
                                                        |(refine VOK_lt (run_eql ..) rfl (uw_ (bE ?_));dsimp only;exact ⟨λq=>⟨z1,z2,z3,by omega,by omega,by omega,by omega,q⟩,λq=>q.2.2.2.2.2.2.2⟩)
                                                        |(refine uv_ hc rfl rfl (uw_ (bE ?_));omega)
                                                        |(refine uv_ hd rfl rfl (uw_ (bE ?_));omega)
                                                        |(refine uv_ (c_ n 1 8) rfl rfl (uw_ (bE ?_));omega)
                                                        |(refine uv_ (c_ n 2 5) rfl rfl (uw_ (bE ?_));omega)
                                                        |(refine uv_ (c_ kd 1 5) rfl rfl (uw_ (bE ?_));omega)
                                                        |(refine uv_ (c_ kd 1 1) rfl rfl (uw_ (bE ?_));omega)
                                                        |(refine uv_ (c_ kd 2 4) rfl rfl (uw_ (bE ?_));omega)
                                                        |(refine uv_ (c_ kd 2 5) rfl rfl (uw_ (bE ?_));omega)
                                                        |(refine uv_ (c_ kd (loI op) (hiI op)) rfl rfl (uw_ (bE ?_));omega)
                                                        |refine uv_ (vS_ kd) rfl rfl ?_
                                                        |refine uv_ (vT_ op) rfl rfl ?_)
 .rw [decide_eq_decide.2 (zC_ h)];(
                                    refine b_ rfl rfl (λq1=>?_) (λq1=>?_)<;>simp only [nc]at q1
                                    exfalso;omega;refine uv_ (vR_ vk vi vf) rfl rfl (VOK_lt (vj_ ..) rfl (u8_ rfl (λhz=>uw_ (bF λq=>hz0 hz (by first|omega|exact q.elim))) (λhz=>?_)));obtain ⟨z1,z2,z3⟩:=hz1 hz;repeat' first
                                     |(refine b_ rfl rfl ?_ ?_<;>intro h<;>simp only [nc]at h<;>try omega)
                                     |(refine uv_ hc rfl rfl (u8_ rfl ?_ ?_)<;>intro h<;>(first|replace h:=dT h|replace h:=dF h))
                                     |(refine uv_ (c_ kd 6 12) rfl rfl (u8_ rfl ?_ ?_)<;>intro h<;>(first|replace h:=dT h|replace h:=dF h))
                                     |(refine uv_ (c_ kd 2 5) rfl rfl (u8_ rfl ?_ ?_)<;>intro h<;>(first|replace h:=dT h|replace h:=dF h))
                                     |(refine uv_ (c_ op 4 16) rfl rfl (u8_ rfl ?_ ?_)<;>intro h<;>(first|replace h:=dT h|replace h:=dF h))
                                     |(refine uw_ (bF ?_);omega)
                                     |exact uw_ (bF id)
                                     |(refine VOK_lt (run_eql ..) rfl (uw_ (bE ?_));omega)
                                     |(refine VOK_lt (run_eql ..) rfl (uw_ (bE ?_));dsimp only;omega)
                                     |(refine VOK_lt (run_eql ..) rfl (uw_ (bE ?_));dsimp only;exact ⟨λq=>⟨z1,z2,z3,by omega,by omega,by omega,by omega,q⟩,λq=>q.2.2.2.2.2.2.2⟩)
                                     |(refine uv_ hc rfl rfl (uw_ (bE ?_));omega)
                                     |(refine uv_ hd rfl rfl (uw_ (bE ?_));omega)
                                     |(refine uv_ (c_ n 1 8) rfl rfl (uw_ (bE ?_));omega)
                                     |(refine uv_ (c_ n 2 5) rfl rfl (uw_ (bE ?_));omega)
                                     |(refine uv_ (c_ kd 1 5) rfl rfl (uw_ (bE ?_));omega)
                                     |(refine uv_ (c_ kd 1 1) rfl rfl (uw_ (bE ?_));omega)
                                     |(refine uv_ (c_ kd 2 4) rfl rfl (uw_ (bE ?_));omega)
                                     |(refine uv_ (c_ kd 2 5) rfl rfl (uw_ (bE ?_));omega)
                                     |(refine uv_ (c_ kd (loI op) (hiI op)) rfl rfl (uw_ (bE ?_));omega)
                                     |refine uv_ (vS_ kd) rfl rfl ?_
                                     |refine uv_ (vT_ op) rfl rfl ?_)
def v2_ (k:Int):Int:=if 1<=k/\k<=5 then 1 else if 6<=k/\k<=8 then 4 else if k=9\/k=10 then 3 else if k=11\/k=12 then 2 else 0
theorem zY_ (k:Int):jw_ Tryz.prog 74 [.int .i64 k] (.int .i64 (v2_ k)):=by
 refine t0_ (sh:=[none]) (ls:=[.int .i64 k]) (c:=c74) (n:=300) (t:=t74) mo ov rfl rfl rfl (λY _=>vu_ _) rfl (by kernel_rfl) λY hf hg=>?_;unfold t74;repeat' (refine b_ rfl rfl ?_ ?_<;>intro h<;>simp only [nc]at h<;>try omega)
 all_goals exact uw_ (iK (by unfold v2_;(repeat' split)<;>omega))
theorem xp_ {k i:Int} (h:1<=k/\k<=4):wI_ k i=i↔((k=1/\(i=0\/i=1))\/(k=2/\ -32768<=i/\i<=32767)\/(k=3/\ -2147483648<=i/\i<=2147483647)\/k=4):=by
 have a:=xn_ i;have b:=xo_ i;have e1:(-32768<=i/\i<=32767)->IntKind.i16.wrap i=i:=λh=>by simp [IntKind.wrap,IntKind.bits,IntKind.signed];omega
 have e2:(-2147483648<=i/\i<=2147483647)->IntKind.i32.wrap i=i:=λh=>by simp [IntKind.wrap,IntKind.bits,IntKind.signed];omega
 unfold wI_;rcases (by omega:k=1\/k=2\/k=3\/k=4)with rfl|rfl|rfl|rfl
 .rw [if_pos rfl];split<;>omega
 rw [if_neg (by decide),if_pos rfl];exact ⟨λh=>.inr (.inl ⟨rfl,by omega⟩),λh=>e1 (by omega)⟩;rw [if_neg (by decide),if_neg (by decide),if_pos rfl];exact ⟨λh=>.inr (.inr (.inl ⟨rfl,by omega⟩)),λh=>e2 (by omega)⟩;rw [if_neg (by decide),if_neg (by decide),if_neg (by decide),if_pos rfl];exact ⟨λh=>.inr (.inr (.inr rfl)),λh=>rfl⟩
theorem zN_ (k i:Int) (f:Nat):jw_ Tryz.prog 118 [.agg [.int .i64 k,.int .i64 i,.flt .f64 f]] (.bool (decide (OkV k i f))):=by
 refine t0_ (sh:=[some 3]) (ls:=[.int .i64 k,.int .i64 i,.flt .f64 f]) (c:=AN_) (n:=300) (t:=z8_) mo ov rfl rfl rfl (λY _=>vu_ _) rfl (by kernel_rfl) λY hf hg=>?_;unfold z8_;refine VOK_lt (run_eql ..) rfl (u8_ rfl (λh5=>VOK_lt (run_eql ..) rfl (uw_ (bE ?_))) (λh5=>?_));have:=dT h5;unfold OkV;omega;have h5:=dF h5;refine uv_ (zY_ k) rfl rfl (VOK_lt (run_eql ..) rfl (u8_ rfl (λhw=>?_) (λhw=>uw_ (bF ?_))))
 .have hw:=dT hw;have hk:1<=k/\k<=4:=by
   unfold v2_ at hw;revert hw
   (repeat' split)<;>omega
  refine uv_ (am_ f) rfl rfl (VOK_lt (run_eql ..) rfl (u8_ rfl (λhb=>?_) (λhb=>uw_ (bF ?_))));have hb:=(wc_ f).1 (dT hb);refine uv_ (Bj_ (by omega) i) rfl rfl (VOK_lt (run_eql ..) rfl (uw_ (bE ((xp_ hk).trans ?_))));unfold OkV;omega;have hb:¬f=0:=λe=>dF hb ((wc_ f).2 e);unfold OkV;omega
 have hw:=dF hw;have hk:¬(1<=k/\k<=4):=λh=>hw (by unfold v2_;rw [if_pos (by omega)]);unfold OkV;omega
def c77:VC:=⟨⟨[],[]⟩,[(119,[none]),(118,[none]),(120,[none])],[],0,true,[]⟩
def t77:VT:=It Q1 [64,J 1] 71 (It Q1 [68,J 0] 72 (.done (.bool false))<|It Qc [69,J 0] 73 (.done (.bool false))<|.call 119 [70] 74 [none]<|It Uj [74,.int .u64 0] 75 (.done (.bool false))<|It Q4 [66,J 0] 76 (Li Qa [66,J 64] 77<|Iq 65 0 78 (Li Q0 [67,J 0] 79<|Iq 64 1 80 (.call 118 [.agg [68,69,70]] 81 [none]<|.ite 81 (It Q9 [65,68] 82 (Iq 66 0 83 (Li Q0 [67,J 0] 84<|.done (84))<|.done (.bool false))<|.done (.bool false))<|.done (.bool false))<|Iq 64 2 81 (.ite 77 (.done (79))<|.done (.bool false))<|Iq 64 18 82 (.ite 77 (.done (79))<|.done (.bool false))<|Iq 64 3 83 (.ite 77 (Iq 65 0 84 (It Q4 [67,J 1] 85 (Li Q8 [67,J 8] 86<|.done (86))<|.done (.bool false))<|.done (.bool false))<|.done (.bool false))<|Iq 64 19 84 (.ite 77 (Iq 65 0 85 (It Q4 [67,J 1] 86 (Li Q8 [67,J 8] 87<|.done (87))<|.done (.bool false))<|.done (.bool false))<|.done (.bool false))<|Iq 64 20 85 (It Q4 [66,J 0] 86 (It Qa [66,J 400] 87 (.done (79))<|.done (.bool false))<|.done (.bool false))<|Iq 64 21 86 (It Q4 [66,J 0] 87 (It Qa [66,J 400] 88 (.done (79))<|.done (.bool false))<|.done (.bool false))<|Iq 64 22 87 (It Q4 [65,J 11] 88 (.ite 77 (It Q4 [65,J 6] 89 (It Q8 [65,J 12] 90 (Li Q9 [67,J 1] 91<|.done (91))<|.done (.bool false))<|.done (.bool false))<|.done (.bool false))<|.ite 77 (It Q4 [65,J 6] 89 (It Q8 [65,J 12] 90 (Li Q9 [67,J 2] 91<|.done (91))<|.done (.bool false))<|.done (.bool false))<|.done (.bool false))<|Iq 64 23 88 (.ite 79 (Li Q0 [66,J 0] 89<|.done (89))<|.done (.bool false))<|Iq 64 17 89 (Iq 66 0 90 (It Q4 [65,J 2] 91 (It Q8 [65,J 5] 92 (It Q4 [67,J 2] 93 (Li Q8 [67,J 5] 94<|.done (94))<|.done (.bool false))<|.done (.bool false))<|.done (.bool false))<|.done (.bool false))<|It Q1 [66,J 0] 90 (.done (.bool false))<|It Q1 [67,J 0] 91 (.done (.bool false))<|It Qa [65,J 1] 92 (.done (.bool false))<|It Qb [65,J 5] 93 (.done (.bool false))<|Iq 64 4 94 (Li Q1 [65,J 1] 95<|.done (95))<|Iq 64 5 95 (Li Q1 [65,J 1] 96<|.done (96))<|Iq 64 6 96 (Li Q1 [65,J 1] 97<|.done (97))<|Iq 64 7 97 (Li Q1 [65,J 1] 98<|.done (98))<|Iq 64 16 98 (Li Q1 [65,J 1] 99<|.done (99))<|Iq 64 11 99 (Li Q1 [65,J 1] 100<|.done (100))<|Iq 64 12 100 (Li Q1 [65,J 1] 101<|.done (101))<|Iq 64 8 101 (.call 120 [65] 102 [none]<|.done (102))<|Iq 64 9 102 (.done (.bool true))<|Iq 64 10 103 (.done (.bool true))<|Iq 64 13 104 (Li Q0 [65,J 1] 105<|.done (105))<|Iq 64 14 105 (Li Q0 [65,J 1] 106<|.done (106))<|Iq 64 15 106 (Li Q0 [65,J 1] 107<|.done (107))<|.done (.bool false))<|Iq 64 1 79 (.call 118 [.agg [68,69,70]] 80 [none]<|.ite 80 (It Q9 [65,68] 81 (Iq 66 0 82 (Li Q0 [67,J 0] 83<|.done (83))<|.done (.bool false))<|.done (.bool false))<|.done (.bool false))<|Iq 64 2 80 (.ite 77 (.done (.bool false))<|.done (.bool false))<|Iq 64 18 81 (.ite 77 (.done (.bool false))<|.done (.bool false))<|Iq 64 3 82 (.ite 77 (Iq 65 0 83 (It Q4 [67,J 1] 84 (Li Q8 [67,J 8] 85<|.done (85))<|.done (.bool false))<|.done (.bool false))<|.done (.bool false))<|Iq 64 19 83 (.ite 77 (Iq 65 0 84 (It Q4 [67,J 1] 85 (Li Q8 [67,J 8] 86<|.done (86))<|.done (.bool false))<|.done (.bool false))<|.done (.bool false))<|Iq 64 20 84 (It Q4 [66,J 0] 85 (It Qa [66,J 400] 86 (.done (.bool false))<|.done (.bool false))<|.done (.bool false))<|Iq 64 21 85 (It Q4 [66,J 0] 86 (It Qa [66,J 400] 87 (.done (.bool false))<|.done (.bool false))<|.done (.bool false))<|Iq 64 22 86 (It Q4 [65,J 11] 87 (.ite 77 (It Q4 [65,J 6] 88 (It Q8 [65,J 12] 89 (Li Q9 [67,J 1] 90<|.done (90))<|.done (.bool false))<|.done (.bool false))<|.done (.bool false))<|.ite 77 (It Q4 [65,J 6] 88 (It Q8 [65,J 12] 89 (Li Q9 [67,J 2] 90<|.done (90))<|.done (.bool false))<|.done (.bool false))<|.done (.bool false))<|Iq 64 23 87 (.done (.bool false))<|Iq 64 17 88 (Iq 66 0 89 (It Q4 [65,J 2] 90 (It Q8 [65,J 5] 91 (It Q4 [67,J 2] 92 (Li Q8 [67,J 5] 93<|.done (93))<|.done (.bool false))<|.done (.bool false))<|.done (.bool false))<|.done (.bool false))<|It Q1 [66,J 0] 89 (.done (.bool false))<|It Q1 [67,J 0] 90 (.done (.bool false))<|It Qa [65,J 1] 91 (.done (.bool false))<|It Qb [65,J 5] 92 (.done (.bool false))<|Iq 64 4 93 (Li Q1 [65,J 1] 94<|.done (94))<|Iq 64 5 94 (Li Q1 [65,J 1] 95<|.done (95))<|Iq 64 6 95 (Li Q1 [65,J 1] 96<|.done (96))<|Iq 64 7 96 (Li Q1 [65,J 1] 97<|.done (97))<|Iq 64 16 97 (Li Q1 [65,J 1] 98<|.done (98))<|Iq 64 11 98 (Li Q1 [65,J 1] 99<|.done (99))<|Iq 64 12 99 (Li Q1 [65,J 1] 100<|.done (100))<|Iq 64 8 100 (.call 120 [65] 101 [none]<|.done (101))<|Iq 64 9 101 (.done (.bool true))<|Iq 64 10 102 (.done (.bool true))<|Iq 64 13 103 (Li Q0 [65,J 1] 104<|.done (104))<|Iq 64 14 104 (Li Q0 [65,J 1] 105<|.done (105))<|Iq 64 15 105 (Li Q0 [65,J 1] 106<|.done (106))<|.done (.bool false))<|Iq 65 0 77 (Li Q0 [67,J 0] 78<|Iq 64 1 79 (.call 118 [.agg [68,69,70]] 80 [none]<|.ite 80 (It Q9 [65,68] 81 (Iq 66 0 82 (Li Q0 [67,J 0] 83<|.done (83))<|.done (.bool false))<|.done (.bool false))<|.done (.bool false))<|Iq 64 2 80 (.done (.bool false))<|Iq 64 18 81 (.done (.bool false))<|Iq 64 3 82 (.done (.bool false))<|Iq 64 19 83 (.done (.bool false))<|Iq 64 20 84 (It Q4 [66,J 0] 85 (It Qa [66,J 400] 86 (.done (78))<|.done (.bool false))<|.done (.bool false))<|Iq 64 21 85 (It Q4 [66,J 0] 86 (It Qa [66,J 400] 87 (.done (78))<|.done (.bool false))<|.done (.bool false))<|Iq 64 22 86 (It Q4 [65,J 11] 87 (.done (.bool false))<|.done (.bool false))<|Iq 64 23 87 (.ite 78 (Li Q0 [66,J 0] 88<|.done (88))<|.done (.bool false))<|Iq 64 17 88 (Iq 66 0 89 (It Q4 [65,J 2] 90 (It Q8 [65,J 5] 91 (It Q4 [67,J 2] 92 (Li Q8 [67,J 5] 93<|.done (93))<|.done (.bool false))<|.done (.bool false))<|.done (.bool false))<|.done (.bool false))<|It Q1 [66,J 0] 89 (.done (.bool false))<|It Q1 [67,J 0] 90 (.done (.bool false))<|It Qa [65,J 1] 91 (.done (.bool false))<|It Qb [65,J 5] 92 (.done (.bool false))<|Iq 64 4 93 (Li Q1 [65,J 1] 94<|.done (94))<|Iq 64 5 94 (Li Q1 [65,J 1] 95<|.done (95))<|Iq 64 6 95 (Li Q1 [65,J 1] 96<|.done (96))<|Iq 64 7 96 (Li Q1 [65,J 1] 97<|.done (97))<|Iq 64 16 97 (Li Q1 [65,J 1] 98<|.done (98))<|Iq 64 11 98 (Li Q1 [65,J 1] 99<|.done (99))<|Iq 64 12 99 (Li Q1 [65,J 1] 100<|.done (100))<|Iq 64 8 100 (.call 120 [65] 101 [none]<|.done (101))<|Iq 64 9 101 (.done (.bool true))<|Iq 64 10 102 (.done (.bool true))<|Iq 64 13 103 (Li Q0 [65,J 1] 104<|.done (104))<|Iq 64 14 104 (Li Q0 [65,J 1] 105<|.done (105))<|Iq 64 15 105 (Li Q0 [65,J 1] 106<|.done (106))<|.done (.bool false))<|Iq 64 1 78 (.call 118 [.agg [68,69,70]] 79 [none]<|.ite 79 (It Q9 [65,68] 80 (Iq 66 0 81 (Li Q0 [67,J 0] 82<|.done (82))<|.done (.bool false))<|.done (.bool false))<|.done (.bool false))<|Iq 64 2 79 (.done (.bool false))<|Iq 64 18 80 (.done (.bool false))<|Iq 64 3 81 (.done (.bool false))<|Iq 64 19 82 (.done (.bool false))<|Iq 64 20 83 (It Q4 [66,J 0] 84 (It Qa [66,J 400] 85 (.done (.bool false))<|.done (.bool false))<|.done (.bool false))<|Iq 64 21 84 (It Q4 [66,J 0] 85 (It Qa [66,J 400] 86 (.done (.bool false))<|.done (.bool false))<|.done (.bool false))<|Iq 64 22 85 (It Q4 [65,J 11] 86 (.done (.bool false))<|.done (.bool false))<|Iq 64 23 86 (.done (.bool false))<|Iq 64 17 87 (Iq 66 0 88 (It Q4 [65,J 2] 89 (It Q8 [65,J 5] 90 (It Q4 [67,J 2] 91 (Li Q8 [67,J 5] 92<|.done (92))<|.done (.bool false))<|.done (.bool false))<|.done (.bool false))<|.done (.bool false))<|It Q1 [66,J 0] 88 (.done (.bool false))<|It Q1 [67,J 0] 89 (.done (.bool false))<|It Qa [65,J 1] 90 (.done (.bool false))<|It Qb [65,J 5] 91 (.done (.bool false))<|Iq 64 4 92 (Li Q1 [65,J 1] 93<|.done (93))<|Iq 64 5 93 (Li Q1 [65,J 1] 94<|.done (94))<|Iq 64 6 94 (Li Q1 [65,J 1] 95<|.done (95))<|Iq 64 7 95 (Li Q1 [65,J 1] 96<|.done (96))<|Iq 64 16 96 (Li Q1 [65,J 1] 97<|.done (97))<|Iq 64 11 97 (Li Q1 [65,J 1] 98<|.done (98))<|Iq 64 12 98 (Li Q1 [65,J 1] 99<|.done (99))<|Iq 64 8 99 (.call 120 [65] 100 [none]<|.done (100))<|Iq 64 9 100 (.done (.bool true))<|Iq 64 10 101 (.done (.bool true))<|Iq 64 13 102 (Li Q0 [65,J 1] 103<|.done (103))<|Iq 64 14 103 (Li Q0 [65,J 1] 104<|.done (104))<|Iq 64 15 104 (Li Q0 [65,J 1] 105<|.done (105))<|.done (.bool false))<|It Q4 [66,J 0] 72 (Li Qa [66,J 64] 73<|Iq 65 0 74 (Li Q0 [67,J 0] 75<|Iq 64 1 76 (.call 118 [.agg [68,69,70]] 77 [none]<|.ite 77 (It Q9 [65,68] 78 (Iq 66 0 79 (Li Q0 [67,J 0] 80<|.done (80))<|.done (.bool false))<|.done (.bool false))<|.done (.bool false))<|Iq 64 2 77 (.ite 73 (.done (75))<|.done (.bool false))<|Iq 64 18 78 (.ite 73 (.done (75))<|.done (.bool false))<|Iq 64 3 79 (.ite 73 (Iq 65 0 80 (It Q4 [67,J 1] 81 (Li Q8 [67,J 8] 82<|.done (82))<|.done (.bool false))<|.done (.bool false))<|.done (.bool false))<|Iq 64 19 80 (.ite 73 (Iq 65 0 81 (It Q4 [67,J 1] 82 (Li Q8 [67,J 8] 83<|.done (83))<|.done (.bool false))<|.done (.bool false))<|.done (.bool false))<|Iq 64 20 81 (It Q4 [66,J 0] 82 (It Qa [66,J 400] 83 (.done (75))<|.done (.bool false))<|.done (.bool false))<|Iq 64 21 82 (It Q4 [66,J 0] 83 (It Qa [66,J 400] 84 (.done (75))<|.done (.bool false))<|.done (.bool false))<|Iq 64 22 83 (It Q4 [65,J 11] 84 (.ite 73 (It Q4 [65,J 6] 85 (It Q8 [65,J 12] 86 (Li Q9 [67,J 1] 87<|.done (87))<|.done (.bool false))<|.done (.bool false))<|.done (.bool false))<|.ite 73 (It Q4 [65,J 6] 85 (It Q8 [65,J 12] 86 (Li Q9 [67,J 2] 87<|.done (87))<|.done (.bool false))<|.done (.bool false))<|.done (.bool false))<|Iq 64 23 84 (.ite 75 (Li Q0 [66,J 0] 85<|.done (85))<|.done (.bool false))<|Iq 64 17 85 (Iq 66 0 86 (It Q4 [65,J 2] 87 (It Q8 [65,J 5] 88 (It Q4 [67,J 2] 89 (Li Q8 [67,J 5] 90<|.done (90))<|.done (.bool false))<|.done (.bool false))<|.done (.bool false))<|.done (.bool false))<|It Q1 [66,J 0] 86 (.done (.bool false))<|It Q1 [67,J 0] 87 (.done (.bool false))<|It Qa [65,J 1] 88 (.done (.bool false))<|It Qb [65,J 5] 89 (.done (.bool false))<|Iq 64 4 90 (Li Q1 [65,J 1] 91<|.done (91))<|Iq 64 5 91 (Li Q1 [65,J 1] 92<|.done (92))<|Iq 64 6 92 (Li Q1 [65,J 1] 93<|.done (93))<|Iq 64 7 93 (Li Q1 [65,J 1] 94<|.done (94))<|Iq 64 16 94 (Li Q1 [65,J 1] 95<|.done (95))<|Iq 64 11 95 (Li Q1 [65,J 1] 96<|.done (96))<|Iq 64 12 96 (Li Q1 [65,J 1] 97<|.done (97))<|Iq 64 8 97 (.call 120 [65] 98 [none]<|.done (98))<|Iq 64 9 98 (.done (.bool true))<|Iq 64 10 99 (.done (.bool true))<|Iq 64 13 100 (Li Q0 [65,J 1] 101<|.done (101))<|Iq 64 14 101 (Li Q0 [65,J 1] 102<|.done (102))<|Iq 64 15 102 (Li Q0 [65,J 1] 103<|.done (103))<|.done (.bool false))<|Iq 64 1 75 (.call 118 [.agg [68,69,70]] 76 [none]<|.ite 76 (It Q9 [65,68] 77 (Iq 66 0 78 (Li Q0 [67,J 0] 79<|.done (79))<|.done (.bool false))<|.done (.bool false))<|.done (.bool false))<|Iq 64 2 76 (.ite 73 (.done (.bool false))<|.done (.bool false))<|Iq 64 18 77 (.ite 73 (.done (.bool false))<|.done (.bool false))<|Iq 64 3 78 (.ite 73 (Iq 65 0 79 (It Q4 [67,J 1] 80 (Li Q8 [67,J 8] 81<|.done (81))<|.done (.bool false))<|.done (.bool false))<|.done (.bool false))<|Iq 64 19 79 (.ite 73 (Iq 65 0 80 (It Q4 [67,J 1] 81 (Li Q8 [67,J 8] 82<|.done (82))<|.done (.bool false))<|.done (.bool false))<|.done (.bool false))<|Iq 64 20 80 (It Q4 [66,J 0] 81 (It Qa [66,J 400] 82 (.done (.bool false))<|.done (.bool false))<|.done (.bool false))<|Iq 64 21 81 (It Q4 [66,J 0] 82 (It Qa [66,J 400] 83 (.done (.bool false))<|.done (.bool false))<|.done (.bool false))<|Iq 64 22 82 (It Q4 [65,J 11] 83 (.ite 73 (It Q4 [65,J 6] 84 (It Q8 [65,J 12] 85 (Li Q9 [67,J 1] 86<|.done (86))<|.done (.bool false))<|.done (.bool false))<|.done (.bool false))<|.ite 73 (It Q4 [65,J 6] 84 (It Q8 [65,J 12] 85 (Li Q9 [67,J 2] 86<|.done (86))<|.done (.bool false))<|.done (.bool false))<|.done (.bool false))<|Iq 64 23 83 (.done (.bool false))<|Iq 64 17 84 (Iq 66 0 85 (It Q4 [65,J 2] 86 (It Q8 [65,J 5] 87 (It Q4 [67,J 2] 88 (Li Q8 [67,J 5] 89<|.done (89))<|.done (.bool false))<|.done (.bool false))<|.done (.bool false))<|.done (.bool false))<|It Q1 [66,J 0] 85 (.done (.bool false))<|It Q1 [67,J 0] 86 (.done (.bool false))<|It Qa [65,J 1] 87 (.done (.bool false))<|It Qb [65,J 5] 88 (.done (.bool false))<|Iq 64 4 89 (Li Q1 [65,J 1] 90<|.done (90))<|Iq 64 5 90 (Li Q1 [65,J 1] 91<|.done (91))<|Iq 64 6 91 (Li Q1 [65,J 1] 92<|.done (92))<|Iq 64 7 92 (Li Q1 [65,J 1] 93<|.done (93))<|Iq 64 16 93 (Li Q1 [65,J 1] 94<|.done (94))<|Iq 64 11 94 (Li Q1 [65,J 1] 95<|.done (95))<|Iq 64 12 95 (Li Q1 [65,J 1] 96<|.done (96))<|Iq 64 8 96 (.call 120 [65] 97 [none]<|.done (97))<|Iq 64 9 97 (.done (.bool true))<|Iq 64 10 98 (.done (.bool true))<|Iq 64 13 99 (Li Q0 [65,J 1] 100<|.done (100))<|Iq 64 14 100 (Li Q0 [65,J 1] 101<|.done (101))<|Iq 64 15 101 (Li Q0 [65,J 1] 102<|.done (102))<|.done (.bool false))<|Iq 65 0 73 (Li Q0 [67,J 0] 74<|Iq 64 1 75 (.call 118 [.agg [68,69,70]] 76 [none]<|.ite 76 (It Q9 [65,68] 77 (Iq 66 0 78 (Li Q0 [67,J 0] 79<|.done (79))<|.done (.bool false))<|.done (.bool false))<|.done (.bool false))<|Iq 64 2 76 (.done (.bool false))<|Iq 64 18 77 (.done (.bool false))<|Iq 64 3 78 (.done (.bool false))<|Iq 64 19 79 (.done (.bool false))<|Iq 64 20 80 (It Q4 [66,J 0] 81 (It Qa [66,J 400] 82 (.done (74))<|.done (.bool false))<|.done (.bool false))<|Iq 64 21 81 (It Q4 [66,J 0] 82 (It Qa [66,J 400] 83 (.done (74))<|.done (.bool false))<|.done (.bool false))<|Iq 64 22 82 (It Q4 [65,J 11] 83 (.done (.bool false))<|.done (.bool false))<|Iq 64 23 83 (.ite 74 (Li Q0 [66,J 0] 84<|.done (84))<|.done (.bool false))<|Iq 64 17 84 (Iq 66 0 85 (It Q4 [65,J 2] 86 (It Q8 [65,J 5] 87 (It Q4 [67,J 2] 88 (Li Q8 [67,J 5] 89<|.done (89))<|.done (.bool false))<|.done (.bool false))<|.done (.bool false))<|.done (.bool false))<|It Q1 [66,J 0] 85 (.done (.bool false))<|It Q1 [67,J 0] 86 (.done (.bool false))<|It Qa [65,J 1] 87 (.done (.bool false))<|It Qb [65,J 5] 88 (.done (.bool false))<|Iq 64 4 89 (Li Q1 [65,J 1] 90<|.done (90))<|Iq 64 5 90 (Li Q1 [65,J 1] 91<|.done (91))<|Iq 64 6 91 (Li Q1 [65,J 1] 92<|.done (92))<|Iq 64 7 92 (Li Q1 [65,J 1] 93<|.done (93))<|Iq 64 16 93 (Li Q1 [65,J 1] 94<|.done (94))<|Iq 64 11 94 (Li Q1 [65,J 1] 95<|.done (95))<|Iq 64 12 95 (Li Q1 [65,J 1] 96<|.done (96))<|Iq 64 8 96 (.call 120 [65] 97 [none]<|.done (97))<|Iq 64 9 97 (.done (.bool true))<|Iq 64 10 98 (.done (.bool true))<|Iq 64 13 99 (Li Q0 [65,J 1] 100<|.done (100))<|Iq 64 14 100 (Li Q0 [65,J 1] 101<|.done (101))<|Iq 64 15 101 (Li Q0 [65,J 1] 102<|.done (102))<|.done (.bool false))<|Iq 64 1 74 (.call 118 [.agg [68,69,70]] 75 [none]<|.ite 75 (It Q9 [65,68] 76 (Iq 66 0 77 (Li Q0 [67,J 0] 78<|.done (78))<|.done (.bool false))<|.done (.bool false))<|.done (.bool false))<|Iq 64 2 75 (.done (.bool false))<|Iq 64 18 76 (.done (.bool false))<|Iq 64 3 77 (.done (.bool false))<|Iq 64 19 78 (.done (.bool false))<|Iq 64 20 79 (It Q4 [66,J 0] 80 (It Qa [66,J 400] 81 (.done (.bool false))<|.done (.bool false))<|.done (.bool false))<|Iq 64 21 80 (It Q4 [66,J 0] 81 (It Qa [66,J 400] 82 (.done (.bool false))<|.done (.bool false))<|.done (.bool false))<|Iq 64 22 81 (It Q4 [65,J 11] 82 (.done (.bool false))<|.done (.bool false))<|Iq 64 23 82 (.done (.bool false))<|Iq 64 17 83 (Iq 66 0 84 (It Q4 [65,J 2] 85 (It Q8 [65,J 5] 86 (It Q4 [67,J 2] 87 (Li Q8 [67,J 5] 88<|.done (88))<|.done (.bool false))<|.done (.bool false))<|.done (.bool false))<|.done (.bool false))<|It Q1 [66,J 0] 84 (.done (.bool false))<|It Q1 [67,J 0] 85 (.done (.bool false))<|It Qa [65,J 1] 86 (.done (.bool false))<|It Qb [65,J 5] 87 (.done (.bool false))<|Iq 64 4 88 (Li Q1 [65,J 1] 89<|.done (89))<|Iq 64 5 89 (Li Q1 [65,J 1] 90<|.done (90))<|Iq 64 6 90 (Li Q1 [65,J 1] 91<|.done (91))<|Iq 64 7 91 (Li Q1 [65,J 1] 92<|.done (92))<|Iq 64 16 92 (Li Q1 [65,J 1] 93<|.done (93))<|Iq 64 11 93 (Li Q1 [65,J 1] 94<|.done (94))<|Iq 64 12 94 (Li Q1 [65,J 1] 95<|.done (95))<|Iq 64 8 95 (.call 120 [65] 96 [none]<|.done (96))<|Iq 64 9 96 (.done (.bool true))<|Iq 64 10 97 (.done (.bool true))<|Iq 64 13 98 (Li Q0 [65,J 1] 99<|.done (99))<|Iq 64 14 99 (Li Q0 [65,J 1] 100<|.done (100))<|Iq 64 15 100 (Li Q0 [65,J 1] 101<|.done (101))<|.done (.bool false)
set_option maxHeartbeats 8000000 in
theorem p77 (g:GI):jw_ Tryz.prog 77 [.agg (g_ g)] (.bool (decide (aQ_ g.op g.kd g.ad g.n g.vk g.vi g.vf))):=by
 obtain ⟨op,kd,ad,n,vk,vi,vf⟩:=g;refine t0_ (sh:=[some 7]) (ls:=g_ ⟨op,kd,ad,n,vk,vi,vf⟩) (c:=c77) (n:=300) (t:=t77) mo ov rfl (W_ _) rfl (λY _=>vu_ _) rfl (by kernel_rfl) λY hf hg=>?_;show VOK _ (· =AV.bool (decide (aQ_ op kd ad n vk vi vf))) _ _ _;have hv:=zN_ vk vi vf;have hb0:=wc_ vf;rcases ops op with h|h|h|h|h|h|h|h|h|h|h|h
 .rw [decide_eq_decide.2 (zz_ h)];unfold t77;repeat' first
   |(refine b_ rfl rfl ?_ ?_<;>intro h<;>simp only [nc]at h<;>try omega)
   |(refine uv_ hv rfl rfl (u8_ rfl (λhk=>?_) (λhk=>uw_ (bF λh=>dF hk h.2.2.2))))
   |(refine uw_ (bF λh=>?_);(try dsimp only);omega)
   |(refine VOK_lt (run_eql ..) rfl (uw_ (bE ⟨λh=>⟨by omega,h,by omega,dT hk⟩,λh=>h.2.1⟩)))
   |(refine VOK_lt (run_lss ..) rfl ?_)
   |(refine VOK_lt (run_eql ..) rfl ?_)
 .rw [decide_eq_decide.2 (zA_ h)];(
                                    unfold t77;repeat' first
                                     |(refine b_ rfl rfl ?_ ?_<;>intro h<;>simp only [nc]at h<;>try omega)
                                     |(refine uw_ (bF ?_);(try dsimp only);omega)
                                     |exact uw_ (bF id)
                                     |(refine uw_ (bT ?_);(try dsimp only);omega)
                                     |(refine uw_ (bE ?_);(try dsimp only);omega)
                                     |(refine VOK_lt (run_eql ..) rfl (uw_ (bE ?_));(try dsimp only);omega)
                                     |(refine VOK_lt (run_leq ..) rfl (uw_ (bE ?_));(try dsimp only);omega)
                                     |(refine VOK_lt (run_neq ..) rfl (uw_ (bN ?_));(try dsimp only);omega)
                                     |(refine uv_ (tk_ kd) rfl rfl (uw_ (bE ?_));(try dsimp only);omega)
                                     |(refine uv_ (am_ vf) rfl rfl ?_)
                                     |(refine VOK_lt (run_lss ..) rfl ?_)
                                     |(refine VOK_lt (run_eql ..) rfl ?_)
                                     |(refine u8_ rfl (λhb=>?_) (λhb=>?_)<;>(first|replace hb:=dT hb|replace hb:=dF hb)<;>(try dsimp only at hb)))
 .rw [decide_eq_decide.2 (zB_ h)];(
                                    unfold t77;repeat' first
                                     |(refine b_ rfl rfl ?_ ?_<;>intro h<;>simp only [nc]at h<;>try omega)
                                     |(refine uw_ (bF ?_);(try dsimp only);omega)
                                     |exact uw_ (bF id)
                                     |(refine uw_ (bT ?_);(try dsimp only);omega)
                                     |(refine uw_ (bE ?_);(try dsimp only);omega)
                                     |(refine VOK_lt (run_eql ..) rfl (uw_ (bE ?_));(try dsimp only);omega)
                                     |(refine VOK_lt (run_leq ..) rfl (uw_ (bE ?_));(try dsimp only);omega)
                                     |(refine VOK_lt (run_neq ..) rfl (uw_ (bN ?_));(try dsimp only);omega)
                                     |(refine uv_ (tk_ kd) rfl rfl (uw_ (bE ?_));(try dsimp only);omega)
                                     |(refine uv_ (am_ vf) rfl rfl ?_)
                                     |(refine VOK_lt (run_lss ..) rfl ?_)
                                     |(refine VOK_lt (run_eql ..) rfl ?_)
                                     |(refine u8_ rfl (λhb=>?_) (λhb=>?_)<;>(first|replace hb:=dT hb|replace hb:=dF hb)<;>(try dsimp only at hb)))
 .rw [decide_eq_decide.2 (yK_ h)];(
                                     unfold t77;repeat' first
                                      |(refine b_ rfl rfl ?_ ?_<;>intro h<;>simp only [nc]at h<;>try omega)
                                      |(refine uw_ (bF ?_);(try dsimp only);omega)
                                      |exact uw_ (bF id)
                                      |(refine uw_ (bT ?_);(try dsimp only);omega)
                                      |(refine uw_ (bE ?_);(try dsimp only);omega)
                                      |(refine VOK_lt (run_eql ..) rfl (uw_ (bE ?_));(try dsimp only);omega)
                                      |(refine VOK_lt (run_leq ..) rfl (uw_ (bE ?_));(try dsimp only);omega)
                                      |(refine VOK_lt (run_neq ..) rfl (uw_ (bN ?_));(try dsimp only);omega)
                                      |(refine uv_ (tk_ kd) rfl rfl (uw_ (bE ?_));(try dsimp only);omega)
                                      |(refine uv_ (am_ vf) rfl rfl ?_)
                                      |(refine VOK_lt (run_lss ..) rfl ?_)
                                      |(refine VOK_lt (run_eql ..) rfl ?_)
                                      |(refine u8_ rfl (λhb=>?_) (λhb=>?_)<;>(first|replace hb:=dT hb|replace hb:=dF hb)<;>(try dsimp only at hb)))
 .rw [decide_eq_decide.2 (yL_ h)];(
                                     unfold t77;repeat' first
                                      |(refine b_ rfl rfl ?_ ?_<;>intro h<;>simp only [nc]at h<;>try omega)
                                      |(refine uw_ (bF ?_);(try dsimp only);omega)
                                      |exact uw_ (bF id)
                                      |(refine uw_ (bT ?_);(try dsimp only);omega)
                                      |(refine uw_ (bE ?_);(try dsimp only);omega)
                                      |(refine VOK_lt (run_eql ..) rfl (uw_ (bE ?_));(try dsimp only);omega)
                                      |(refine VOK_lt (run_leq ..) rfl (uw_ (bE ?_));(try dsimp only);omega)
                                      |(refine VOK_lt (run_neq ..) rfl (uw_ (bN ?_));(try dsimp only);omega)
                                      |(refine uv_ (tk_ kd) rfl rfl (uw_ (bE ?_));(try dsimp only);omega)
                                      |(refine uv_ (am_ vf) rfl rfl ?_)
                                      |(refine VOK_lt (run_lss ..) rfl ?_)
                                      |(refine VOK_lt (run_eql ..) rfl ?_)
                                      |(refine u8_ rfl (λhb=>?_) (λhb=>?_)<;>(first|replace hb:=dT hb|replace hb:=dF hb)<;>(try dsimp only at hb)))
 .rw [decide_eq_decide.2 (yM_ h)];(
                                     unfold t77;repeat' first
                                      |(refine b_ rfl rfl ?_ ?_<;>intro h<;>simp only [nc]at h<;>try omega)
                                      |(refine uw_ (bF ?_);(try dsimp only);omega)
                                      |exact uw_ (bF id)
                                      |(refine uw_ (bT ?_);(try dsimp only);omega)
                                      |(refine uw_ (bE ?_);(try dsimp only);omega)
                                      |(refine VOK_lt (run_eql ..) rfl (uw_ (bE ?_));(try dsimp only);omega)
                                      |(refine VOK_lt (run_leq ..) rfl (uw_ (bE ?_));(try dsimp only);omega)
                                      |(refine VOK_lt (run_neq ..) rfl (uw_ (bN ?_));(try dsimp only);omega)
                                      |(refine uv_ (tk_ kd) rfl rfl (uw_ (bE ?_));(try dsimp only);omega)
                                      |(refine uv_ (am_ vf) rfl rfl ?_)
                                      |(refine VOK_lt (run_lss ..) rfl ?_)
                                      |(refine VOK_lt (run_eql ..) rfl ?_)
                                      |(refine u8_ rfl (λhb=>?_) (λhb=>?_)<;>(first|replace hb:=dT hb|replace hb:=dF hb)<;>(try dsimp only at hb)))
 .rw [decide_eq_decide.2 (yJ_ h)];(
                                     unfold t77;repeat' first
                                      |(refine b_ rfl rfl ?_ ?_<;>intro h<;>simp only [nc]at h<;>try omega)
                                      |(refine uw_ (bF ?_);(try dsimp only);omega)
                                      |exact uw_ (bF id)
                                      |(refine uw_ (bT ?_);(try dsimp only);omega)
                                      |(refine uw_ (bE ?_);(try dsimp only);omega)
                                      |(refine VOK_lt (run_eql ..) rfl (uw_ (bE ?_));(try dsimp only);omega)
                                      |(refine VOK_lt (run_leq ..) rfl (uw_ (bE ?_));(try dsimp only);omega)
                                      |(refine VOK_lt (run_neq ..) rfl (uw_ (bN ?_));(try dsimp only);omega)
                                      |(refine uv_ (tk_ kd) rfl rfl (uw_ (bE ?_));(try dsimp only);omega)
                                      |(refine uv_ (am_ vf) rfl rfl ?_)
                                      |(refine VOK_lt (run_lss ..) rfl ?_)
                                      |(refine VOK_lt (run_eql ..) rfl ?_)
                                      |(refine u8_ rfl (λhb=>?_) (λhb=>?_)<;>(first|replace hb:=dT hb|replace hb:=dF hb)<;>(try dsimp only at hb)))
 .obtain ⟨e1,e2⟩:=lo9 h
  rw [decide_eq_decide.2 (wy_ 1 5 (by omega) e1 e2)];(
                                                       unfold t77;repeat' first
                                                        |(refine b_ rfl rfl ?_ ?_<;>intro h<;>simp only [nc]at h<;>try omega)
                                                        |(refine uw_ (bF ?_);(try dsimp only);omega)
                                                        |exact uw_ (bF id)
                                                        |(refine uw_ (bT ?_);(try dsimp only);omega)
                                                        |(refine uw_ (bE ?_);(try dsimp only);omega)
                                                        |(refine VOK_lt (run_eql ..) rfl (uw_ (bE ?_));(try dsimp only);omega)
                                                        |(refine VOK_lt (run_leq ..) rfl (uw_ (bE ?_));(try dsimp only);omega)
                                                        |(refine VOK_lt (run_neq ..) rfl (uw_ (bN ?_));(try dsimp only);omega)
                                                        |(refine uv_ (tk_ kd) rfl rfl (uw_ (bE ?_));(try dsimp only);omega)
                                                        |(refine uv_ (am_ vf) rfl rfl ?_)
                                                        |(refine VOK_lt (run_lss ..) rfl ?_)
                                                        |(refine VOK_lt (run_eql ..) rfl ?_)
                                                        |(refine u8_ rfl (λhb=>?_) (λhb=>?_)<;>(first|replace hb:=dT hb|replace hb:=dF hb)<;>(try dsimp only at hb)))
 .obtain ⟨e1,e2⟩:=zy_ h
  rw [decide_eq_decide.2 (wy_ 1 1 (by omega) e1 e2)];(
                                                       unfold t77;repeat' first
                                                        |(refine b_ rfl rfl ?_ ?_<;>intro h<;>simp only [nc]at h<;>try omega)
                                                        |(refine uw_ (bF ?_);(try dsimp only);omega)
                                                        |exact uw_ (bF id)
                                                        |(refine uw_ (bT ?_);(try dsimp only);omega)
                                                        |(refine uw_ (bE ?_);(try dsimp only);omega)
                                                        |(refine VOK_lt (run_eql ..) rfl (uw_ (bE ?_));(try dsimp only);omega)
                                                        |(refine VOK_lt (run_leq ..) rfl (uw_ (bE ?_));(try dsimp only);omega)
                                                        |(refine VOK_lt (run_neq ..) rfl (uw_ (bN ?_));(try dsimp only);omega)
                                                        |(refine uv_ (tk_ kd) rfl rfl (uw_ (bE ?_));(try dsimp only);omega)
                                                        |(refine uv_ (am_ vf) rfl rfl ?_)
                                                        |(refine VOK_lt (run_lss ..) rfl ?_)
                                                        |(refine VOK_lt (run_eql ..) rfl ?_)
                                                        |(refine u8_ rfl (λhb=>?_) (λhb=>?_)<;>(first|replace hb:=dT hb|replace hb:=dF hb)<;>(try dsimp only at hb)))
 .have e1:loI op=2:=(by rw [h];rfl);have e2:hiI op=4:=(by rw [h];rfl)
  rw [decide_eq_decide.2 (wy_ 2 4 (by omega) e1 e2)];(
                                                       unfold t77;repeat' first
                                                        |(refine b_ rfl rfl ?_ ?_<;>intro h<;>simp only [nc]at h<;>try omega)
                                                        |(refine uw_ (bF ?_);(try dsimp only);omega)
                                                        |exact uw_ (bF id)
                                                        |(refine uw_ (bT ?_);(try dsimp only);omega)
                                                        |(refine uw_ (bE ?_);(try dsimp only);omega)
                                                        |(refine VOK_lt (run_eql ..) rfl (uw_ (bE ?_));(try dsimp only);omega)
                                                        |(refine VOK_lt (run_leq ..) rfl (uw_ (bE ?_));(try dsimp only);omega)
                                                        |(refine VOK_lt (run_neq ..) rfl (uw_ (bN ?_));(try dsimp only);omega)
                                                        |(refine uv_ (tk_ kd) rfl rfl (uw_ (bE ?_));(try dsimp only);omega)
                                                        |(refine uv_ (am_ vf) rfl rfl ?_)
                                                        |(refine VOK_lt (run_lss ..) rfl ?_)
                                                        |(refine VOK_lt (run_eql ..) rfl ?_)
                                                        |(refine u8_ rfl (λhb=>?_) (λhb=>?_)<;>(first|replace hb:=dT hb|replace hb:=dF hb)<;>(try dsimp only at hb)))
 .obtain ⟨e1,e2⟩:=lo4 h
  rw [decide_eq_decide.2 (wy_ 2 5 (by omega) e1 e2)];(
                                                       unfold t77;repeat' first
                                                        |(refine b_ rfl rfl ?_ ?_<;>intro h<;>simp only [nc]at h<;>try omega)
                                                        |(refine uw_ (bF ?_);(try dsimp only);omega)
                                                        |exact uw_ (bF id)
                                                        |(refine uw_ (bT ?_);(try dsimp only);omega)
                                                        |(refine uw_ (bE ?_);(try dsimp only);omega)
                                                        |(refine VOK_lt (run_eql ..) rfl (uw_ (bE ?_));(try dsimp only);omega)
                                                        |(refine VOK_lt (run_leq ..) rfl (uw_ (bE ?_));(try dsimp only);omega)
                                                        |(refine VOK_lt (run_neq ..) rfl (uw_ (bN ?_));(try dsimp only);omega)
                                                        |(refine uv_ (tk_ kd) rfl rfl (uw_ (bE ?_));(try dsimp only);omega)
                                                        |(refine uv_ (am_ vf) rfl rfl ?_)
                                                        |(refine VOK_lt (run_lss ..) rfl ?_)
                                                        |(refine VOK_lt (run_eql ..) rfl ?_)
                                                        |(refine u8_ rfl (λhb=>?_) (λhb=>?_)<;>(first|replace hb:=dT hb|replace hb:=dF hb)<;>(try dsimp only at hb)))
 .rw [decide_eq_decide.2 (zC_ h)];(
                                    unfold t77;repeat' first
                                     |(refine b_ rfl rfl ?_ ?_<;>intro h<;>simp only [nc]at h<;>try omega)
                                     |(refine uw_ (bF ?_);(try dsimp only);omega)
                                     |exact uw_ (bF id)
                                     |(refine uw_ (bT ?_);(try dsimp only);omega)
                                     |(refine uw_ (bE ?_);(try dsimp only);omega)
                                     |(refine VOK_lt (run_eql ..) rfl (uw_ (bE ?_));(try dsimp only);omega)
                                     |(refine VOK_lt (run_leq ..) rfl (uw_ (bE ?_));(try dsimp only);omega)
                                     |(refine VOK_lt (run_neq ..) rfl (uw_ (bN ?_));(try dsimp only);omega)
                                     |(refine uv_ (tk_ kd) rfl rfl (uw_ (bE ?_));(try dsimp only);omega)
                                     |(refine uv_ (am_ vf) rfl rfl ?_)
                                     |(refine VOK_lt (run_lss ..) rfl ?_)
                                     |(refine VOK_lt (run_eql ..) rfl ?_)
                                     |(refine u8_ rfl (λhb=>?_) (λhb=>?_)<;>(first|replace hb:=dT hb|replace hb:=dF hb)<;>(try dsimp only at hb)))
structure WG where
 N:Nat
 tk:Nat->Nat
 lv:Nat->Nat
 goes:Nat->List Nat
structure WG.Ok (g:WG):Prop where
 pos:0<g.N
 inn:∀a,a<g.N->∀b∈g.goes a,b<g.N
 two:∀a,(g.goes a).length<=2
def WG.full (g:WG) (w:Nat×Nat):Bool:=decide (w.2<g.tk w.1)||decide (16<w.2-g.tk w.1+g.lv w.1)
def WG.hi (g:WG) (w:Nat×Nat):Nat:=w.2-g.tk w.1+g.lv w.1
def WG.nxt (g:WG) (w:Nat×Nat):List (Nat×Nat):=if g.full w=true then []else (g.goes w.1).map λb=>(b,g.hi w)
inductive WG.Reach (g:WG):Nat×Nat->Prop
 |zero:WG.Reach g (0,0)
 |step {w w':Nat×Nat}:WG.Reach g w->w'∈g.nxt w->WG.Reach g w'
variable {g:WG}
theorem WG.nxt_hi {w w':Nat×Nat} (h:w'∈g.nxt w):g.full w=false/\w'.2=g.hi w/\w'.1∈g.goes w.1/\g.hi w<=16:=by unfold WG.nxt at h;split at h;cases h;rename_i hf;obtain ⟨b,hb,rfl⟩:=List.mem_map.1 h;have hf:g.full w=false:=(by simpa using hf);refine ⟨hf,rfl,hb,?_⟩;unfold WG.full at hf;simp only [Bool.or_eq_false_iff,decide_eq_false_iff_not]at hf;have:=hf.2;unfold WG.hi;omega
theorem WG.nxt_in (hg:g.Ok) {w w':Nat×Nat} (hw:w.1<g.N) (h:w'∈g.nxt w):w'.1<g.N/\w'.2<=16:=by obtain ⟨_,h1,h2,h3⟩:=WG.nxt_hi h;exact ⟨hg.inn _ hw _ h2,by omega⟩
theorem WG.nxt_two (hg:g.Ok) (w:Nat×Nat):(g.nxt w).length<=2:=by unfold WG.nxt;split;simp;rw [List.length_map];exact hg.two _
def wun (S:Nat->Bool):Nat->Nat
 |0=>0
 |n+1=>wun S n+(if S n=true then 0 else 1)
def wK_ (S:Nat->Bool) (i:Nat):Nat->Bool:=λj=>S j||decide (j=i)
theorem wJ_ (S:Nat->Bool) (i:Nat):∀n,n<=i->wun (wK_ S i) n=wun S n
 |0,_=>rfl
 |n+1,h=>by have e:¬n=i:=(by omega);simp only [wun,wJ_ S i n (by omega),wK_,e,decide_false,Bool.or_false]
theorem x7_ (S:Nat->Bool) (i:Nat) (hs:S i=false):∀n,i<n->wun (wK_ S i) n+1=wun S n
 |0,h=>by omega
 |n+1,h=>by by_cases e:n=i;subst e;simp only [wun,wJ_ S n n (Nat.le_refl _),wK_,hs];simp;have:=x7_ S i hs n (by omega);have e2:wK_ S i n=S n:=(by simp [wK_,e]);simp only [wun,e2];omega
theorem x6_ (S:Nat->Bool):∀n,wun S n<=n
 |0=>Nat.le_refl _
 |n+1=>by have:=x6_ S n;simp only [wun];split<;>omega
theorem vI_ {S S':Nat->Bool}:∀n,(∀i,i<n->S i=S' i)->wun S n=wun S' n
 |0,_=>rfl
 |n+1,h=>by simp only [wun,h n (by omega),vI_ n λi hi=>h i (by omega)]
def vM_ (s:List (Nat×Nat)) (k:Nat):Bool:=decide ((k/17,k%17)∈s)
def left (g:WG) (s:List (Nat×Nat)):Nat:=wun (vM_ s) (17*g.N)
theorem v7_ {s:List (Nat×Nat)} {w:Nat×Nat} (h1:w.1<g.N) (h2:w.2<=16) (hn:w∉s):left g (s++[w])+1=left g s:=by
 have hk:(w.1*17+w.2)/17=w.1/\(w.1*17+w.2)%17=w.2:=by omega
 have he:wun (vM_ (s++[w])) (17*g.N)=wun (wK_ (vM_ s) (w.1*17+w.2)) (17*g.N):=vI_ _ λi hi=>by unfold vM_ wK_;by_cases hm:(i/17,i%17)∈s;simp [hm];have:((i/17,i%17)=w)↔i=w.1*17+w.2:=(by constructor;intro h;have a:=congrArg Prod.fst h;have b:=congrArg Prod.snd h;simp only at a b;omega;intro h;obtain ⟨x,y⟩:=w;simp only at h hk;subst h;exact Prod.ext hk.1 hk.2);by_cases hi':i=w.1*17+w.2;rw [this.2 hi',decide_eq_true hi'];simp;have hne:¬(i/17,i%17)=w:=λh=>hi' (this.1 h);simp [hm,hne,hi']
 unfold left;rw [he];refine x7_ _ _ ?_ _ (by omega);unfold vM_;rw [hk.1,hk.2];simpa using hn
theorem w6_ (g:WG) (s:List (Nat×Nat)):left g s<=17*g.N:=x6_ _ _
structure Srch (g:WG) (s t:List (Nat×Nat)):Prop where
 nd:s.Nodup
 rs:∀w∈s,g.Reach w/\w.1<g.N/\w.2<=16
 rt:∀w∈t,g.Reach w/\w.1<g.N/\w.2<=16
 z:(0,0)∈s\/(0,0)∈t
 cl:∀w∈s,∀w'∈g.nxt w,w'∈s\/w'∈t
 lt:t.length+2*left g s<=1+34*g.N
theorem Srch.begin (hg:g.Ok):Srch g [] [(0,0)] where
 nd:=List.nodup_nil
 rs:=λw h=>(List.not_mem_nil h).elim
 rt:=λw h=>by rw [List.mem_singleton.1 h];exact ⟨.zero,hg.pos,Nat.zero_le _⟩
 z:=.inr (List.mem_singleton.2 rfl)
 cl:=λw h=>(List.not_mem_nil h).elim
 lt:=by have:=w6_ g [];simp only [List.length_singleton];omega
theorem Srch.seen {s t t':List (Nat×Nat)} {w:Nat×Nat} (h:Srch g s t) (ht:∀v,v∈t↔v=w\/v∈t') (hl:t'.length+1=t.length) (hw:w∈s):Srch g s t' where
 nd:=h.nd
 rs:=h.rs
 rt:=λv hv=>h.rt v ((ht v).2 (.inr hv))
 z:=h.z.elim .inl λh0=>((ht _).1 h0).elim (λe=>.inl (e▸hw)) .inr
 cl:=λv hv v' hv'=>(h.cl v hv v' hv').elim .inl λh0=>((ht _).1 h0).elim (λe=>.inl (e▸hw)) .inr
 lt:=by have:=h.lt;omega
theorem Srch.fresh (hg:g.Ok) {s t t' t2:List (Nat×Nat)} {w:Nat×Nat} (h:Srch g s t) (ht:∀v,v∈t↔v=w\/v∈t') (hl:t'.length+1=t.length) (hw:w∉s)
  (ht2:∀v,v∈t2↔v∈t'\/v∈g.nxt w) (hl2:t2.length=t'.length+(g.nxt w).length):Srch g (s++[w]) t2/\2*left g (s++[w])+t2.length<2*left g s+t.length:=by
 have hwt:g.Reach w/\w.1<g.N/\w.2<=16:=h.rt w ((ht w).2 (.inl rfl));have hls:=v7_ (s:=s) hwt.2.1 hwt.2.2 hw;have h2:=WG.nxt_two hg w;have hlt:=h.lt;refine ⟨⟨?_,?_,?_,?_,?_,?_⟩,by omega⟩;rw [List.nodup_append];refine ⟨h.nd,by simp,?_⟩;intro a ha b hb e;rw [List.mem_singleton.1 hb]at e;exact hw (e▸ha);intro v hv;rcases List.mem_append.1 hv with hv|hv;exact h.rs v hv;rw [List.mem_singleton.1 hv];exact hwt;intro v hv;rcases (ht2 v).1 hv with hv|hv;exact h.rt v ((ht v).2 (.inr hv));exact ⟨.step hwt.1 hv,WG.nxt_in hg hwt.2.1 hv⟩;rcases h.z with h0|h0;exact .inl (List.mem_append_left _ h0);rcases (ht _).1 h0 with e|h0;exact .inl (List.mem_append_right _ (List.mem_singleton.2 e));exact .inr ((ht2 _).2 (.inl h0));intro v hv v' hv';rcases List.mem_append.1 hv with hv|hv;rcases h.cl v hv v' hv' with h0|h0;exact .inl (List.mem_append_left _ h0);rcases (ht _).1 h0 with e|h0;exact .inl (List.mem_append_right _ (List.mem_singleton.2 e));exact .inr ((ht2 _).2 (.inl h0));rw [List.mem_singleton.1 hv]at hv';exact .inr ((ht2 _).2 (.inr hv'));omega
theorem xN_:∀(s:List (Nat×Nat)),s.Nodup->(∀w∈s,w.1<g.N/\w.2<=16)->left g s+s.length<=17*g.N:=by
 intro s;generalize hn:s.length=n
 induction n generalizing s with
 |zero=>intro _ _;exact w6_ g s
 |succ n ih=>intro hd hin;have hne:s≠[]:=λe=>(by rw [e]at hn;cases hn);have e:=(List.dropLast_concat_getLast hne).symm;generalize s.dropLast=r at e;generalize s.getLast hne=w at e;subst e;rw [List.nodup_append]at hd;have hw:w∉r:=λh=>hd.2.2 w h w (List.mem_singleton.2 rfl) rfl;have h1:=hin w (List.mem_append_right _ (List.mem_singleton.2 rfl));have:=v7_ (g:=g) h1.1 h1.2 hw;have hl:r.length=n:=(by rw [List.length_append]at hn;simp at hn;omega);have:=ih r hl hd.1 λv hv=>hin v (List.mem_append_left _ hv);omega
theorem Srch.len_le {s t:List (Nat×Nat)} (h:Srch g s t):s.length<=17*g.N:=by have:=xN_ s h.nd λw hw=>(h.rs w hw).2;omega
theorem Srch.all {s:List (Nat×Nat)} (h:Srch g s []) {w:Nat×Nat} (hr:g.Reach w):w∈s:=by
 induction hr with
 |zero=>exact h.z.elim id λh0=>(List.not_mem_nil h0).elim
 |step _ hw ih=>exact (h.cl _ ih _ hw).elim id λh0=>(List.not_mem_nil h0).elim
def WG.Full (g:WG):Prop:=∃w,g.Reach w/\g.full w=true
def WG.Two (g:WG):Prop:=∃a h h',g.Reach (a,h)/\g.Reach (a,h')/\h≠h'
def x_ (g:WG) (s:List (Nat×Nat)):Bool:=s.any g.full
def cnt (s:List (Nat×Nat)) (a:Nat):Nat:=s.countP λw=>w.1==a
def s_ (s:List (Nat×Nat)):Bool:=s.any λw=>decide (1<cnt s w.1)
theorem yb_ {s:List (Nat×Nat)} (hn:s.Nodup) {a h h':Nat} (h1:(a,h)∈s) (h2:(a,h')∈s) (hne:h≠h'):1<cnt s a:=by
 induction s with
 |nil=>cases h1
 |cons x s ih=>
  rw [List.nodup_cons]at hn;have one:∀{k},(a,k)∈s->0<cnt s a:=λhk=>List.countP_pos_iff.2 ⟨_,hk,by simp⟩;unfold cnt;rw [List.countP_cons];rcases List.mem_cons.1 h1 with e1|m1<;>rcases List.mem_cons.1 h2 with e2|m2
  exact absurd (congrArg Prod.snd (e1.trans e2.symm)) hne;have:=one m2;unfold cnt at this;subst e1;simp only [BEq.rfl,if_true];omega;have:=one m1;unfold cnt at this;subst e2;simp only [BEq.rfl,if_true];omega;have:=ih hn.2 m1 m2;unfold cnt at this;omega
theorem ys_ {s:List (Nat×Nat)} (hn:s.Nodup) {a:Nat} (h:1<cnt s a):∃k k',(a,k)∈s/\(a,k')∈s/\k≠k':=by
 induction s with
 |nil=>simp [cnt]at h
 |cons x s ih=>rw [List.nodup_cons]at hn;unfold cnt at h;rw [List.countP_cons]at h;by_cases hx:x.1=a;have h0:0<s.countP λw=>w.1==a:=(by have:(x.1==a)=true:=(by simp [hx]);rw [if_pos this]at h;omega);obtain ⟨y,hy,hya⟩:=List.countP_pos_iff.1 h0;have hya:y.1=a:=(by simpa using hya);refine ⟨x.2,y.2,?_,?_,?_⟩;rw [←hx];exact List.mem_cons_self ..;rw [←hya];exact List.mem_cons_of_mem _ hy;intro e;have:x=y:=Prod.ext (hx.trans hya.symm) e;exact hn.1 (this▸hy);have:¬((x.1==a)=true):=(by simpa using hx);rw [if_neg this]at h;obtain ⟨k,k',h1,h2,h3⟩:=ih hn.2 (by unfold cnt;omega);exact ⟨k,k',List.mem_cons_of_mem _ h1,List.mem_cons_of_mem _ h2,h3⟩
theorem Srch.full {s:List (Nat×Nat)} (h:Srch g s []):x_ g s=true↔g.Full:=by unfold x_;rw [List.any_eq_true];exact ⟨λ⟨w,h1,h2⟩=>⟨w,(h.rs w h1).1,h2⟩,λ⟨w,h1,h2⟩=>⟨w,h.all h1,h2⟩⟩
theorem Srch.two {s:List (Nat×Nat)} (h:Srch g s []):s_ s=true↔g.Two:=by unfold s_;rw [List.any_eq_true];constructor;rintro ⟨w,h1,h2⟩;obtain ⟨k,k',m1,m2,hne⟩:=ys_ h.nd (by simpa using h2);exact ⟨w.1,k,k',(h.rs _ m1).1,(h.rs _ m2).1,hne⟩;rintro ⟨a,k,k',m1,m2,hne⟩;exact ⟨(a,k),h.all m1,by simpa using yb_ h.nd (h.all m1) (h.all m2) hne⟩
theorem vp_ {s:List (Nat×Nat)} {w:Nat×Nat}:s_ (s++[w])=(s_ s||decide (1<cnt s w.1+1)):=by
 have hc:∀a,cnt (s++[w]) a=cnt s a+(if w.1=a then 1 else 0):=λa=>by unfold cnt;rw [List.countP_append,List.countP_singleton];by_cases h:w.1=a<;>simp [h]
 apply Bool.eq_iff_iff.2;unfold s_;simp only [List.any_append,List.any_cons,List.any_nil,Bool.or_false,Bool.or_eq_true,List.any_eq_true,decide_eq_true_eq,hc,if_true];constructor;rintro (⟨v,h1,h2⟩|h2);by_cases e:w.1=v.1;rw [if_pos e]at h2;right;rw [e];exact h2;rw [if_neg e]at h2;exact .inl ⟨v,h1,h2⟩;exact .inr h2;rintro (⟨v,h1,h2⟩|h2);exact .inl ⟨v,h1,by omega⟩;exact .inr h2
theorem z_ {s:List (Nat×Nat)} {w:Nat×Nat}:x_ g (s++[w])=(x_ g s||g.full w):=by unfold x_;simp
def c79:VC:=⟨⟨[],[]⟩,[],[],0,true,[]⟩
def t79:VT:=Iq 64 1 71 (Dn [J 1])<|Iq 64 2 72 (Dn [J 1])<|Iq 64 3 73 (.done (.tup [J 1,J 1]))<|Iq 64 17 74 (.done (.tup [J 1,J 1]))<|Iq 64 15 75 (.done (.tup [J 1,J 1]))<|Iq 64 16 76 (.done (.tup [J 1,J 1]))<|Iq 64 18 77 (.done (.tup [J 1,J 0]))<|Iq 64 21 78 (.done (.tup [J 1,J 0]))<|Iq 64 19 79 (.done (.tup [J 2,J 0]))<|Iq 64 20 80 (Dn [J 0])<|Iq 64 23 81 (Dn [J 0])<|Iq 64 22 82 (.done (.tup [67,J 0]))<|.done (.tup [J 2,J 1])
def l_ (op:Int):Int:=if 18<=op/\op<=23 then 0 else 1
theorem Ar_ {a b c d:Int} (h:a=c) (h':b=d):AV.tup [.int .i64 a,.int .i64 b]=.tup [.int .i64 c,.int .i64 d]:=by rw [h,h']
theorem p79 {i:GI} (hn:i.op=22->0<=i.n):jw_ Tryz.prog 79 [.agg (g_ i)] (.tup [.int .i64 (e_ i:Int),.int .i64 (l_ i.op)]):=by
 obtain ⟨op,kd,ad,n,vk,vi,vf⟩:=i;simp only at hn;refine t0_ (sh:=[some 7]) (ls:=g_ ⟨op,kd,ad,n,vk,vi,vf⟩) (c:=c79) (n:=300) (t:=t79) mo ov rfl (W_ _) rfl (λY _=>vu_ _) rfl (by kernel_rfl) λY hf hg=>?_;unfold t79;repeat' (refine b_ rfl rfl ?_ ?_<;>intro h<;>simp only [nc]at h<;>try omega)
 all_goals exact uw_ (Ar_ (by unfold e_;simp only;(repeat' split)<;>omega) (by unfold l_;simp only;split<;>omega))
def AK_:VC:=⟨⟨[],[]⟩,[],[],0,true,[]⟩
def z5_:VT:=Iq 64 9 65 (.done (J 3))<|Iq 64 10 66 (.done (J 3))<|Iq 64 11 67 (.done (J 2))<|Iq 64 12 68 (.done (J 2))<|.done (J 4)
def c65:VC:=⟨⟨[],[]⟩,[(112,[none])],[],0,true,[]⟩
def t65:VT:=Iq 66 2 73 (Li Z7 [68,65] 74<|.done (74))<|Iq 66 18 74 (Li Z7 [68,65] 75<|.done (75))<|Iq 66 3 75 (Li Qr [68,69] 76<|Li Zu [76,65] 77<|.done (77))<|Iq 66 19 76 (Li Qr [68,69] 77<|Li Zu [77,65] 78<|.done (78))<|Iq 66 22 77 (.call 112 [67] 78 [none]<|Li Qr [68,78] 79<|Li Zu [79,65] 80<|.done (80))<|Iq 66 20 78 (Li Qi [64] 79<|Li Z7 [68,79] 80<|.done (80))<|Iq 66 21 79 (Li Qi [64] 80<|Li Z7 [68,80] 81<|.done (81))<|.done (.bool false)
def c78:VC:=⟨⟨[],[]⟩,[(74,[none])],[],0,true,[]⟩
def t78:VT:=Iq 64 2 73 (Li Q5 [66,72] 74<|.done (74))<|Iq 64 18 74 (Li Q5 [66,72] 75<|.done (75))<|Iq 64 3 75 (Li Qr [66,67] 76<|Li Zt [76,72] 77<|.done (77))<|Iq 64 19 76 (Li Qr [66,67] 77<|Li Zt [77,72] 78<|.done (78))<|Iq 64 22 77 (.call 74 [65] 78 [none]<|Li Qr [66,78] 79<|Li Zt [79,72] 80<|.done (80))<|Iq 64 20 78 (Li Q5 [66,71] 79<|.done (79))<|Iq 64 21 79 (Li Q5 [66,71] 80<|.done (80))<|.done (.bool true)
def c62:VC:=⟨⟨[],[]⟩,[(63,[none])],[],0,true,[]⟩
def t62:VT:=.call 63 [.agg [64,65,66,67,68,69,70]] 71 [none]<|Li Q6 [71] 72<|.done (72)
def A3_:VC:=⟨⟨[],[]⟩,[(65,[none])],[],0,true,[]⟩
def Aq_:VT:=.call 65 [71,72,.agg [64,65,66,67,68,69,70]] 73 [none]<|.done (73)
def cI1a:VC:=⟨⟨[],[]⟩,[(62,[none])],[(0,[⟨[(8,.slx 0 0 0),(0,64),(1,.fn 62 []),(7,65)],[],0,1,[],[],[]⟩])],0,true,[]⟩
def Ao_:VT:=Li Qi [64] 65<|.loop 66 0 [J 0] (.cons 1 (It Q5 [66,65] 67 (Li Qk [64,66] 68<|.lt Qy [68] 69 (some 7)<|.call 62 [.agg [69,70,71,72,73,74,75]] 76 [none]<|.ite 76 (.done (66))<|Li Q3 [66,J 1] 77<|.again 0 0 [77])<|.done (.int .i64 (-1))) .nil)
def cI2b:VC:=⟨⟨[],[]⟩,[(64,[none])],[(0,[⟨[(8,.slx 0 0 0),(0,64),(1,.fn 64 [.vptr [65],.vptr [66]]),(7,67)],[],0,1,[],[],[]⟩])],0,true,[]⟩
def Ap_:VT:=Li Qi [64] 67<|.loop 68 0 [J 0] (.cons 1 (It Q5 [68,67] 69 (Li Qk [64,68] 70<|.lt Qy [70] 71 (some 7)<|.call 64 [.agg [71,72,73,74,75,76,77],.vptr [65],.vptr [66]] 78 [none]<|.ite 78 (.done (68))<|Li Q3 [68,J 1] 79<|.again 0 0 [79])<|.done (.int .i64 (-1))) .nil)
def A1_:VC:=⟨⟨[],[]⟩,[(104,[none])],[],0,true,[]⟩
def Am_:VT:=.call 104 [64,.fn 62 []] 65 [none]<|Li Q4 [65,J 0] 66<|.done (66)
def A2_:VC:=⟨⟨[],[]⟩,[(104,[none])],[],0,true,[]⟩
def An_:VT:=.call 104 [64,.fn 64 [.vptr [65],.vptr [66]]] 67 [none]<|Li Q4 [67,J 0] 68<|.done (68)
def AL_:VC:=⟨⟨[],[]⟩,[],[],0,true,[]⟩
def z6_:VT:=Iq 64 1 71 (Dn [J 1])<|Iq 64 2 72 (Dn [J 1])<|Iq 64 3 73 (.done (.tup [J 1,J 1]))<|Iq 64 17 74 (.done (.tup [J 1,J 1]))<|Iq 64 15 75 (.done (.tup [J 1,J 1]))<|Iq 64 16 76 (.done (.tup [J 1,J 1]))<|Iq 64 18 77 (.done (.tup [J 1,J 0]))<|Iq 64 21 78 (.done (.tup [J 1,J 0]))<|Iq 64 19 79 (.done (.tup [J 2,J 0]))<|Iq 64 22 80 (.done (.tup [67,J 0]))<|Iq 64 20 81 (Dn [J 0])<|Iq 64 23 82 (Dn [J 0])<|.done (.tup [J 2,J 1])
def AM_:VC:=⟨⟨[],[]⟩,[],[],0,true,[]⟩
def z7_:VT:=Iq 64 23 72 (.done (.nsl))<|Iq 64 20 73 (.done (.vsl 1 1 [66]))<|Iq 64 21 74 (Li Q3 [71,J 1] 75<|.done (.vsl 2 1 [66,75]))<|Li Q3 [71,J 1] 75<|.done (.vsl 1 1 [75])
def GI.May (g:GI):Prop:=aQ_ g.op g.kd g.ad g.n g.vk g.vi g.vf
instance (g:GI):Decidable g.May:=by unfold GI.May;infer_instance
def wM_ (op kd ad n len cells:Int):Prop:=(op=2\/op=18->ad<cells)/\(op=3\/op=19->ad+n<=cells)/\(op=22->ad+v2_ kd<=cells)/\(op=20\/op=21->ad<len)
instance (op kd ad n len cells:Int):Decidable (wM_ op kd ad n len cells):=by unfold wM_;infer_instance
def GI.Plc (g:GI) (len:Nat) (cells:Int):Prop:=wM_ g.op g.kd g.ad g.n len cells
instance (g:GI) (len:Nat) (cells:Int):Decidable (g.Plc len cells):=by unfold GI.Plc;infer_instance
theorem C_ {op kd ad n vk vi:Int} {vf:Nat} (h:aQ_ op kd ad n vk vi vf):1<=op/\op<=23/\0<=ad/\ad<=399/\0<=n/\n<=8/\(op=22->6<=kd/\kd<=12):=by unfold aQ_ at h;rcases h with h|⟨h0,_,_,_,h⟩;omega;omega
def yv_ (k:Int):Int:=if k=9\/k=10 then 3 else if k=11\/k=12 then 2 else 4
theorem Bh_ (k:Int):jw_ Tryz.prog 112 [.int .i64 k] (.int .i64 (yv_ k)):=by
 refine t0_ (sh:=[none]) (ls:=[.int .i64 k]) (c:=AK_) (n:=300) (t:=z5_) mo ov rfl rfl rfl (λY _=>vu_ _) rfl (by kernel_rfl) λY hf hg=>?_;unfold z5_;repeat' (refine b_ rfl rfl ?_ ?_<;>intro h<;>simp only [nc]at h<;>try omega)
 all_goals exact uw_ (iK (by unfold yv_;(repeat' split)<;>omega))
theorem x4_ {k:Int} (h:6<=k/\k<=12):yv_ k=v2_ k:=by
 unfold yv_ v2_
 (repeat' split)<;>omega
theorem x5_ (k:Int):0<=v2_ k/\v2_ k<=4:=by
 unfold v2_
 (repeat' split)<;>omega
theorem pO_ {l:List GI} {x:AV} (h:SlV g_ 7 l x):(XOp.len 30).run Tryz.prog [x]=some (.int .i64 (l.length:Int)):=h.len Tryz.underlying30
theorem p65 {l:List GI} {x:AV} (hx:SlV g_ 7 l x) (cells:Int) {g:GI} (hm:g.May):jw_ Tryz.prog 65 [x,.int .i64 cells,.agg (g_ g)] (.bool (decide (¬g.Plc l.length cells))):=by
 obtain ⟨op,kd,ad,n,vk,vi,vf⟩:=g;have hb:1<=op/\op<=23/\0<=ad/\ad<=399/\0<=n/\n<=8/\(op=22->6<=kd/\kd<=12):=C_ hm;have okx:=hx.ok W_;refine t0_ (sh:=[none,none,some 7]) (ls:=[x,.int .i64 cells]++g_ ⟨op,kd,ad,n,vk,vi,vf⟩) (c:=c65) (n:=300) (t:=t65) mo ov (by rcases hx with rfl|⟨_,rfl⟩<;>rfl) (by simp only [List.cons_append,List.nil_append,g_,okL,okC,okx]) rfl (λY _=>vu_ _) rfl (by kernel_rfl) λY hf hg=>?_;show VOK _ (· =AV.bool (decide (¬wM_ op kd ad n l.length cells))) _ _ _;have hw:=x5_ kd;have hwb:=λh22:op=22=>x4_ (k:=kd) (hb.2.2.2.2.2.2 h22);unfold t65 wM_;repeat' first
  |(refine b_ rfl rfl ?_ ?_<;>intro h<;>simp only [nc]at h<;>try omega)
  |(refine uw_ (bF ?_);(first|omega|(dsimp only;omega)))
  |(refine VOK_lt (run_geq ..) rfl (uw_ (bE ?_));(first|omega|(dsimp only;omega)))
  |(refine VOK_lt (run_gtr ..) rfl (uw_ (bE ?_));(first|omega|(dsimp only;omega)))
  |refine VOK_lt (pO_ hx) rfl ?_
  |refine uv_ (Bh_ kd) rfl rfl ?_
  |refine VOK_lt (p_ (by first|omega|(dsimp only;omega)) (by first|omega|(dsimp only;omega))) rfl ?_
theorem p78 {g:GI} (hm:g.May) (len:Nat) (cells:Int):jw_ Tryz.prog 78 [.agg (g_ g),.int .i64 (len:Int),.int .i64 cells] (.bool (decide (g.Plc len cells))):=by
 obtain ⟨op,kd,ad,n,vk,vi,vf⟩:=g;have hb:1<=op/\op<=23/\0<=ad/\ad<=399/\0<=n/\n<=8/\(op=22->6<=kd/\kd<=12):=C_ hm;refine t0_ (sh:=[some 7,none,none]) (ls:=g_ ⟨op,kd,ad,n,vk,vi,vf⟩++[.int .i64 (len:Int),.int .i64 cells]) (c:=c78) (n:=300) (t:=t78) mo ov rfl rfl rfl (λY _=>vu_ _) rfl (by kernel_rfl) λY hf hg=>?_;show VOK _ (· =AV.bool (decide (wM_ op kd ad n len cells))) _ _ _;have hw:=x5_ kd;have hwb:=λh22:op=22=>x4_ (k:=kd) (hb.2.2.2.2.2.2 h22);unfold t78 wM_;repeat' first
  |(refine b_ rfl rfl ?_ ?_<;>intro h<;>simp only [nc]at h<;>try omega)
  |(refine uw_ (bT ?_);(first|omega|(dsimp only;omega)))
  |(refine VOK_lt (run_lss ..) rfl (uw_ (bE ?_));(first|omega|(dsimp only;omega)))
  |(refine VOK_lt (run_leq ..) rfl (uw_ (bE ?_));(first|omega|(dsimp only;omega)))
  |refine uv_ (zY_ kd) rfl rfl ?_
  |refine VOK_lt (p_ (by first|omega|(dsimp only;omega)) (by first|omega|(dsimp only;omega))) rfl ?_
theorem p62 (g:GI):jw_ Tryz.prog 62 [.agg (g_ g)] (.bool (!decide g.May)):=by refine t0_ (sh:=[some 7]) (ls:=g_ g) (c:=c62) (n:=300) (t:=t62) mo ov rfl (W_ _) rfl (λY _=>vu_ _) rfl (by kernel_rfl) λY hf hg=>?_;exact uv_ (p63 g) rfl rfl (VOK_lt (vj_ ..) rfl (uw_ rfl))
theorem p64 {l:List GI} {x:AV} (hx:SlV g_ 7 l x) (cells:Int) {g:GI} (hm:g.May):jw_ Tryz.prog 64 [.agg (g_ g),.vptr [x],.vptr [.int .i64 cells]] (.bool (decide (¬g.Plc l.length cells))):=by have okx:=hx.ok W_;refine uR_ (args':=[.agg (aj_ 64 7),.vptr [.sym 71],.vptr [.sym 72]]) (ls:=g_ g++[x,.int .i64 cells]) (c:=A3_) (n:=300) (m:=73) (t:=Aq_) mo ov (by simp only [mB_,Sx.okI,okL,okC,okx,g_]) rfl (by simp only [List.cons_append,List.nil_append,g_,okL,okC,okx]) rfl (λY hf=>rfl) (λY _=>vu_ _) rfl (by kernel_rfl) λY hf hg=>?_;unfold Aq_;exact uv_ (p65 hx cells hm) rfl (by simp only [okL,okC,Sx.okI,okx,g_]) (uw_ rfl)
theorem y_:∀{a:AV},okC a=true->Sx.okI a=true
 | .bool _,_| .int _ _,_| .flt _ _,_| .nan _,_| .str _,_| .nptr,_| .nsl,_| .nmap,_| .nfn,_| .nif,_=>rfl
 | .vptr _,h| .vsl _ _ _,h| .fn _ _,h| .iface _ _,h=>h
def wr_ (p:GI->Bool) (l:List GI):Int:=match l.findIdx? p with
 |some i=>(i:Int)
 |none=> -1
theorem wY_ (p:GI->Bool) (l:List GI):0<=wr_ p l↔∃g∈l,p g=true:=by
 unfold wr_;cases h:l.findIdx? p with
 |none=>rw [List.findIdx?_eq_none_iff]at h;constructor;intro h;have h:(0:Int)<= -1:=h;omega;rintro ⟨g,hg,hp⟩;rw [h g hg]at hp;cases hp
 |some i=>rw [List.findIdx?_eq_some_iff_getElem]at h;obtain ⟨hi,hp,_⟩:=h;exact ⟨λ_=>⟨l[i],List.getElem_mem hi,hp⟩,λ_=>by show (0:Int)<=(i:Int);omega⟩
theorem wX_ {p:GI->Bool} {l:List GI} {i:Nat} (hi:i<l.length) (h0:∀j (h:j<l.length),j<i->p l[j]=false) (h1:p l[i]=true):wr_ p l=i:=by have:l.findIdx? p=some i:=List.findIdx?_eq_some_iff_getElem.2 ⟨hi,h1,λj hj=>by rw [h0 j (by omega) hj];decide⟩;unfold wr_;rw [this]
theorem v5_ {p:GI->Bool} {l:List GI} (h0:∀j (h:j<l.length),p l[j]=false):wr_ p l= -1:=by
 have:l.findIdx? p=none:=List.findIdx?_eq_none_iff.2 λg hg=>by obtain ⟨j,hj,rfl⟩:=List.mem_iff_getElem.1 hg;exact h0 j hj
 unfold wr_;rw [this]
theorem iaI {l:List GI} {x:AV} (hx:SlV g_ 7 l x) {i:Nat} (h:i<l.length):(XOp.iaddr 30).run Tryz.prog [x,.int .i64 (i:Int)]=some (.vptr (bA_ g_ (l.drop i))):=hx.ia (e:=68) Tryz.underlying30 (ti:=(Tryz.prog.info? 68).get!) (by kernel_rfl) (by kernel_rfl) ww_ h .i64
theorem ldI {l:List GI} {i:Nat} (h:i<l.length):(XOp.load 68).run Tryz.prog [.vptr (bA_ g_ (l.drop i))]=some (.agg (g_ l[i])):=run_load_agg (ti:=(Tryz.prog.info? 68).get!) Tryz.underlying68 rfl (by kernel_rfl) (by kernel_rfl) ww_ h
theorem vO_ (l:List GI) (i:Nat):okC (.vptr (bA_ g_ (l.drop i)))=true:=kP_ W_ _
theorem I1 {l:List GI} {x:AV} (hx:SlV g_ 7 l x) (hl:l.length<=1000000):jw_ Tryz.prog 104 [x,.fn 62 []] (.int .i64 (wr_ (λg=> !decide g.May) l)):=by
 have okx:=hx.ok W_;refine uR_ (args':=[.sym 64,.fn 62 []]) (ls:=[x]) (c:=cI1a) (n:=300) (m:=65) (t:=Ao_) mo ov (by simp only [mB_,y_ okx,Sx.okI,okL]) rfl (by simp only [okL,okx]) rfl (λY hf=>rfl) (λY _=>vu_ _) rfl (by kernel_rfl) λY hf hg=>?_;unfold Ao_;refine VOK_lt (pO_ hx) rfl ?_;refine ux_ (ι:=Nat) (λi=>[.int .i64 (i:Int)]) (λi=>i<=l.length/\∀j (h:j<l.length),j<i->(!decide (l[j].May))=false) (λi=>l.length-i) 0 ⟨Nat.zero_le _,λj _ h=>by omega⟩ rfl (λ_ _=>rfl) (λi j _ _ h=>?_) (λi hi=>?_)
 .have h:=(List.cons.inj h).1;injection h with _ h
  omega
 obtain ⟨hi,h0⟩:=hi;refine VOK_lt (run_lss ..) rfl (u8_ rfl (λhlt=>?_) (λhlt=>uw_ (congrArg (AV.int .i64) (v5_ λj hj=>h0 j hj ?_).symm)));have hlt:(i:Int)<(l.length:Int):=dT hlt;have hlt:i<l.length:=(by omega);refine VOK_lt (iaI hx hlt) (vO_ l i) (u9_ (ldI hlt) rfl (W_ _) (uv_ (p62 l[i]) rfl rfl (u8_ rfl (λhm=>uw_ (congrArg (AV.int .i64) (wX_ hlt h0 hm).symm)) (λhm=>VOK_lt (run_add ..) rfl (ul_ rfl ⟨i+1,⟨hlt,λj hj hji=>?_⟩,?_,?_⟩)))));by_cases e:j=i;subst e;exact hm;exact h0 j hj (by omega);show [AV.int .i64 (IntKind.i64.wrap ((i:Int)+1))]=[AV.int .i64 ((i+1:Nat):Int)];rw [vE_ (by omega) (by omega)];rfl;omega;have hlt:¬(i:Int)<(l.length:Int):=dF hlt;omega
theorem I2 {l:List GI} {x:AV} (hx:SlV g_ 7 l x) (hl:l.length<=1000000) (hm:∀g∈l,g.May) (cells:Int):jw_ Tryz.prog 104 [x,.fn 64 [.vptr [x],.vptr [.int .i64 cells]]] (.int .i64 (wr_ (λg=>decide (¬g.Plc l.length cells)) l)):=by
 have okx:=hx.ok W_;refine uR_ (args':=[.sym 64,.fn 64 [.vptr [.sym 65],.vptr [.sym 66]]]) (ls:=[x,x,.int .i64 cells]) (c:=cI2b) (n:=300) (m:=67) (t:=Ap_) mo ov (by simp only [mB_,y_ okx,Sx.okI,okL,okC,okx]) rfl (by simp only [okL,okC,okx]) rfl (λY hf=>rfl) (λY _=>vu_ _) rfl (by kernel_rfl) λY hf hg=>?_;unfold Ap_;refine VOK_lt (pO_ hx) rfl ?_;refine ux_ (ι:=Nat) (λi=>[.int .i64 (i:Int)]) (λi=>i<=l.length/\∀j (h:j<l.length),j<i->decide (¬(l[j].Plc l.length cells))=false) (λi=>l.length-i) 0 ⟨Nat.zero_le _,λj _ h=>by omega⟩ rfl (λ_ _=>rfl) (λi j _ _ h=>?_) (λi hi=>?_)
 .have h:=(List.cons.inj h).1;injection h with _ h
  omega
 obtain ⟨hi,h0⟩:=hi;refine VOK_lt (run_lss ..) rfl (u8_ rfl (λhlt=>?_) (λhlt=>uw_ (congrArg (AV.int .i64) (v5_ λj hj=>h0 j hj ?_).symm)));have hlt:(i:Int)<(l.length:Int):=dT hlt;have hlt:i<l.length:=(by omega);refine VOK_lt (iaI hx hlt) (vO_ l i) (u9_ (ldI hlt) rfl (W_ _) (uv_ (p64 hx cells (hm _ (List.getElem_mem hlt))) rfl (by simp only [okL,okC,Sx.okI,okx,g_]) (u8_ rfl (λhm=>uw_ (congrArg (AV.int .i64) (wX_ hlt h0 hm).symm)) (λhm=>VOK_lt (run_add ..) rfl (ul_ rfl ⟨i+1,⟨hlt,λj hj hji=>?_⟩,?_,?_⟩)))));by_cases e:j=i;subst e;exact hm;exact h0 j hj (by omega);show [AV.int .i64 (IntKind.i64.wrap ((i:Int)+1))]=[AV.int .i64 ((i+1:Nat):Int)];rw [vE_ (by omega) (by omega)];rfl;omega;have hlt:¬(i:Int)<(l.length:Int):=dF hlt;omega
theorem C1 {l:List GI} {x:AV} (hx:SlV g_ 7 l x) (hl:l.length<=1000000):jw_ Tryz.prog 61 [x,.fn 62 []] (.bool (decide (¬∀g∈l,g.May))):=by have okx:=hx.ok W_;refine uR_ (args':=[.sym 64,.fn 62 []]) (ls:=[x]) (c:=A1_) (n:=300) (m:=65) (t:=Am_) mo ov (by simp only [mB_,y_ okx,Sx.okI,okL]) rfl (by simp only [okL,okx]) rfl (λY hf=>rfl) (λY _=>vu_ _) rfl (by kernel_rfl) λY hf hg=>?_;unfold Am_;refine uv_ (I1 hx hl) rfl (by simp only [okL,okC,y_,okx]) (VOK_lt (run_geq ..) rfl (uw_ (bE ((wY_ _ l).trans ?_))));constructor;rintro ⟨g,hg,h⟩ ha;simp [ha g hg]at h;intro h;apply Classical.byContradiction;intro hn;exact h λg hg=>Classical.byContradiction λhm=>hn ⟨g,hg,by simp [hm]⟩
theorem C2 {l:List GI} {x:AV} (hx:SlV g_ 7 l x) (hl:l.length<=1000000) (hm:∀g∈l,g.May) (cells:Int):jw_ Tryz.prog 61 [x,.fn 64 [.vptr [x],.vptr [.int .i64 cells]]] (.bool (decide (¬∀g∈l,g.Plc l.length cells))):=by have okx:=hx.ok W_;refine uR_ (args':=[.sym 64,.fn 64 [.vptr [.sym 65],.vptr [.sym 66]]]) (ls:=[x,x,.int .i64 cells]) (c:=A2_) (n:=300) (m:=67) (t:=An_) mo ov (by simp only [mB_,y_ okx,Sx.okI,okL,okC,okx]) rfl (by simp only [okL,okC,okx]) rfl (λY hf=>rfl) (λY _=>vu_ _) rfl (by kernel_rfl) λY hf hg=>?_;unfold An_;refine uv_ (I2 hx hl hm cells) rfl (by simp only [okL,okC,y_,okx]) (VOK_lt (run_geq ..) rfl (uw_ (bE ((wY_ _ l).trans ?_))));constructor;rintro ⟨g,hg,h⟩ ha;simp [ha g hg]at h;intro h;apply Classical.byContradiction;intro hn;exact h λg hg=>Classical.byContradiction λhm=>hn ⟨g,hg,by simp [hm]⟩
def j_ (g:GI) (a:Nat):List Nat:=if g.op=23 then []else if g.op=20 then [g.ad.toNat]else if g.op=21 then [g.ad.toNat,a+1]else [a+1]
def Z_ (a:Nat):List AV:=[.int .i64 (a:Int)]
theorem A9_ (a:Nat):(Z_ a).length=1:=rfl
theorem xc_ (a:Nat):okL (Z_ a)=true:=rfl
theorem zL_ {g:GI} (hm:g.May):jw_ Tryz.prog 113 [.agg (g_ g)] (.tup [.int .i64 (e_ g:Int),.int .i64 (l_ g.op)]):=by
 obtain ⟨op,kd,ad,n,vk,vi,vf⟩:=g;have hb:1<=op/\op<=23/\0<=ad/\ad<=399/\0<=n/\n<=8/\(op=22->6<=kd/\kd<=12):=C_ hm;refine t0_ (sh:=[some 7]) (ls:=g_ ⟨op,kd,ad,n,vk,vi,vf⟩) (c:=AL_) (n:=300) (t:=z6_) mo ov rfl (W_ _) rfl (λY _=>vu_ _) rfl (by kernel_rfl) λY hf hg=>?_;unfold z6_;repeat' (refine b_ rfl rfl ?_ ?_<;>intro h<;>simp only [nc]at h<;>try omega)
 all_goals exact uw_ (Ar_ (by unfold e_;simp only;(repeat' split)<;>omega) (by unfold l_;simp only;split<;>omega))
theorem zM_ {g:GI} (hm:g.May) {a:Nat} (ha:a<=1000000):jw_ Tryz.prog 114 [.agg (g_ g),.int .i64 (a:Int)] (a3_ Z_ 1 (j_ g a)):=by
 obtain ⟨op,kd,ad,n,vk,vi,vf⟩:=g;have hb:1<=op/\op<=23/\0<=ad/\ad<=399/\0<=n/\n<=8/\(op=22->6<=kd/\kd<=12):=C_ hm;have had:((ad.toNat:Nat):Int)=ad:=Int.toNat_of_nonneg (by omega);have e1:IntKind.i64.wrap ((a:Int)+1)=((a+1:Nat):Int):=by rw [vE_ (by omega) (by omega)];rfl
 refine t0_ (sh:=[some 7,none]) (ls:=g_ ⟨op,kd,ad,n,vk,vi,vf⟩++[.int .i64 (a:Int)]) (c:=AM_) (n:=300) (t:=z7_) mo ov rfl rfl (pZ_ (t8_ xc_ _)) (λY _=>vu_ _) rfl (by kernel_rfl) λY hf hg=>?_;unfold z7_;repeat' (refine b_ rfl rfl ?_ ?_<;>intro h<;>simp only [nc]at h<;>try omega)
 refine uw_ ?_;rw [show j_ ⟨op,kd,ad,n,vk,vi,vf⟩ a=[] from if_pos h];rfl;refine uw_ ?_;rw [show j_ ⟨op,kd,ad,n,vk,vi,vf⟩ a=[ad.toNat] from by unfold j_;rw [if_neg (by assumption),if_pos h]];show AV.vsl 1 1 [.int .i64 ad]=.vsl 1 1 [.int .i64 (ad.toNat:Int)];rw [had];refine VOK_lt (run_add ..) rfl (uw_ ?_);rw [show j_ ⟨op,kd,ad,n,vk,vi,vf⟩ a=[ad.toNat,a+1] from by unfold j_;rw [if_neg (by assumption),if_neg (by assumption),if_pos h]];show AV.vsl 2 1 [.int .i64 ad,.int .i64 (IntKind.i64.wrap ((a:Int)+1))]=.vsl 2 1 [.int .i64 (ad.toNat:Int),.int .i64 ((a+1:Nat):Int)];rw [had,e1];refine VOK_lt (run_add ..) rfl (uw_ ?_);rw [show j_ ⟨op,kd,ad,n,vk,vi,vf⟩ a=[a+1] from by unfold j_;rw [if_neg (by assumption),if_neg (by assumption),if_neg h]];show AV.vsl 1 1 [.int .i64 (IntKind.i64.wrap ((a:Int)+1))]=.vsl 1 1 [.int .i64 ((a+1:Nat):Int)];rw [e1]
def c66:VC:=⟨⟨[],[]⟩,[(113,[none,none]),(114,[none])],[(0,[⟨[(4,.map 0),(3,.slx 0 0 0),(5,.map 1),(0,64),(6,.slx 2 2 1),(2,.slx 2 0 0)],[],3,5,[⟨2,2,1,6,none⟩],[(0,3),(1,4)],[]⟩]),(2,[⟨[(81,.slx 0 0 0),(10,.slx 1 0 0),(6,.slx 2 2 2),(79,.slx 3 0 0),(4,.map 0),(3,.slx 4 0 0),(5,.map 1),(0,64),(2,67),(80,.slx 5 0 0)],[],3,8,[⟨2,2,2,6,none⟩],[(0,6),(1,7)],[]⟩])],0,true,[]⟩
def t66:VT:=.loop 65 0 [.bool false,.vsl 1 2 [J 0,J 0],.bool false,.vsl 0 2 [],.vsl 0 2 []] (.cons 5 (Li (.len 177) [66] 70<|It Qb [70,J 0] 71 (Li (.len 177) [66] 72<|Li Qj [72,J 1] 73<|Li Q2 [66,73] 74<|.lt (.ldx 176 2 0) [66,74] 75 (some 2)<|Li (.len 177) [66] 77<|Li Qj [77,J 1] 78<|Li .tkx [66,66,78] 79<|It (.mlk 173) [68,.agg [75,76]] 80 (.again 0 0 [65,79,67,68,69])<|Li (.mpu 173) [68,.agg [75,76],.bool true] 81<|Li (.mlk 174) [69,75] 82<|Li Q3 [82,J 1] 83<|Li (.mput 174) [69,75,83] 84<|.ite 65 (Li Qk [64,75] 85<|.lt Qy [85] 86 (some 7)<|.call 113 [.agg [86,87,88,89,90,91,92]] 93 [none,none]<|Li Zg [76,93] 95<|Li Qr [95,94] 96<|It Q5 [76,93] 97 (.again 0 0 [.bool true,79,.bool true,81,84])<|It Qb [96,J 16] 98 (.again 0 0 [.bool true,79,.bool true,81,84])<|Li Qk [64,75] 99<|.lt Qy [99] 100 (some 7)<|.call 114 [.agg [100,101,102,103,104,105,106],75] 107 [none]<|Li Qf [107] 108<|.loop 109 0 [J 0,96,79,107,.bool true,108,81,84] (.cons 8 (It Q5 [109,114] 117 (Li (.iaddr 74) [112,109] 118<|Li Qn [118] 119<|Li Za [111,.agg [119,110]] 120<|Li Q3 [109,J 1] 121<|.again 1 0 [121,110,120,112,113,114,115,116])<|.again 0 0 [113,111,67,115,116]) .nil))<|Li (.mlk 174) [84,75] 85<|Li Qb [85,J 1] 86<|Li Qk [64,75] 87<|.lt Qy [87] 88 (some 7)<|.call 113 [.agg [88,89,90,91,92,93,94]] 95 [none,none]<|Li Zg [76,95] 97<|Li Qr [97,96] 98<|It Q5 [76,95] 99 (.again 0 0 [86,79,.bool true,81,84])<|It Qb [98,J 16] 100 (.again 0 0 [86,79,.bool true,81,84])<|Li Qk [64,75] 101<|.lt Qy [101] 102 (some 7)<|.call 114 [.agg [102,103,104,105,106,107,108],75] 109 [none]<|Li Qf [109] 110<|.loop 111 0 [J 0,98,79,109,86,110,81,84] (.cons 8 (It Q5 [111,116] 119 (Li (.iaddr 74) [114,111] 120<|Li Qn [120] 121<|Li Za [113,.agg [121,112]] 122<|Li Q3 [111,J 1] 123<|.again 1 0 [123,112,122,114,115,116,117,118])<|.again 0 0 [115,113,67,117,118]) .nil))<|.done (.tup [67,65])) .nil)
def c30:VC:=⟨⟨[],[]⟩,[(61,[none]),(66,[none,none])],[],0,true,[]⟩
def t30:VT:=Li Qi [64] 66<|Iq 66 0 67 (.done (J 2))<|Li Qi [64] 68<|It Qb [68,J 400] 69 (.done (J 2))<|.call 61 [64,.fn 62 []] 70 [none]<|.ite 70 (.done (J 2))<|Li Qi [64] 71<|Li Qj [71,J 1] 72<|Li Qk [64,72] 73<|Li Z4 [73] 74<|Li Qn [74] 75<|It Q1 [75,J 23] 76 (.done (J 2))<|.call 61 [64,.fn 64 [.vptr [64],.vptr [65]]] 77 [none]<|.ite 77 (.done (J 6))<|.call 66 [64] 78 [none,none]<|.ite 78 (.done (J 12))<|.ite 79 (.done (J 4))<|.done (J 0)
theorem I_ {P:Program} {α β:Type} (f:α->Sem β) (s:Sem α):aI_ P (s >>= f)=match aI_ P s with|some a=>aI_ P (f a)|none=>none:=by
 induction s with
 |pure a=>rfl
 |program k ih=>exact ih P
 |mark m k ih=>exact ih
 |_=>rfl
theorem und {P:Program} {t:TypeId} {d:TypeDesc} (h:P.underlying t=some d):aI_ P (underlying t)=some d:=by show aI_ P (match P.underlying t with|some d=>pure d|none=>stuck "no such type")=_;rw [h];rfl
theorem zr_ {P:Program} {t:TypeId} {k:IntKind} (h:P.underlying t=some (.int k)) (d:Nat) (a b:Int):aI_ P (Op.equalIn (d+1) t (.int .i64 a) (.int .i64 b))=some (a==b):=by unfold Op.equalIn;rw [I_,und h];rfl
theorem zs_ (a b c d:Int):hR_ Tryz.prog 176 (.agg [.int .i64 a,.int .i64 b]) (.agg [.int .i64 c,.int .i64 d])=some ((a==c)&&(b==d)):=by
 show aI_ Tryz.prog (Op.equalIn (9999+1) 176 (.agg #[.int .i64 a,.int .i64 b]) (.agg #[.int .i64 c,.int .i64 d]))=_;unfold Op.equalIn;rw [I_,und Tryz.underlying176];have h1:Tryz.prog.stoodInHeld 176=false:=by kernel_rfl
 have q0:∀x y:Int,aI_ Tryz.prog (part 3 #[.int .i64 x,.int .i64 y] 0)=some (.int .i64 x):=λx y=>by kernel_rfl
 have q1:∀x y:Int,aI_ Tryz.prog (part 3 #[.int .i64 x,.int .i64 y] 1)=some (.int .i64 y):=λx y=>by kernel_rfl
 have e9:∀x y:Int,aI_ Tryz.prog (Op.equalIn 9999 3 (.int .i64 x) (.int .i64 y))=some (x==y):=λx y=>zr_ Tryz.underlying3 9998 x y;have hp:aI_ Tryz.prog program=some Tryz.prog:=rfl;have hpu:∀{α:Type} (x:α),aI_ Tryz.prog (pure x)=some x:=λx=>rfl;simp only [I_,hp,h1,Bool.false_eq_true,if_false,List.forIn_toArray,List.forIn_cons,List.forIn_nil];simp [I_,q0,q1,e9,hpu];by_cases h:a=c;subst h;simp [I_,q0,q1,e9,hpu];by_cases h:b=d;subst h;simp [hpu];simp [hpu,h];simp [hpu,h]
def i_ (x:Nat×Nat):List AV:=[.int .i64 (x.1:Int),.int .i64 (x.2:Int)]
theorem wx_ (x:Nat×Nat):(i_ x).length=2:=rfl
theorem uo_ (x:Nat×Nat):okL (i_ x)=true:=rfl
def U_ (w:Nat×Nat):List AV:=[.iface 0 (.agg (i_ w)),.bool true]
theorem yD_ (a b:Int):dS_ Tryz.prog 176 (.agg [.int .i64 a,.int .i64 b])=true:=by kernel_rfl
theorem eqQ (w q:Nat×Nat):hR_ Tryz.prog 176 (.agg (i_ w)) (.agg (i_ q))=some (decide (w=q)):=by refine (zs_ ..).trans (congrArg some ?_);rw [Bool.eq_iff_iff];simp only [Bool.and_eq_true,beq_iff_eq,decide_eq_true_eq,Prod.ext_iff];omega
theorem xx_ (w:Nat×Nat):∀(s:List (Nat×Nat)) (i:Nat),(w∈s->∃j,dE_ Tryz.prog 176 (.agg (i_ w)) (no_ (bA_ U_ s)) i=some (some (j,.agg (i_ w),.bool true)))/\(w∉s->dE_ Tryz.prog 176 (.agg (i_ w)) (no_ (bA_ U_ s)) i=some none)
 |[],i=>⟨λh=>(List.not_mem_nil h).elim,λ_=>rfl⟩
 |q::s,i=>by have e:no_ (bA_ U_ (q::s))=(.agg (i_ q),.bool true,0)::no_ (bA_ U_ s):=rfl;have ih:=xx_ w s (i+1);rw [e];unfold dE_;rw [eqQ];by_cases h:w=q;subst h;rw [decide_eq_true rfl];exact ⟨λ_=>⟨i,rfl⟩,λhn=>absurd (List.mem_cons_self ..) hn⟩;rw [decide_eq_false h];exact ⟨λhm=>ih.1 ((List.mem_cons.1 hm).resolve_left h),λhn=>ih.2 λhm=>hn (List.mem_cons_of_mem _ hm)⟩
theorem vW_ (s:List (Nat×Nat)) (w:Nat×Nat):(XOp.mlk 173).run Tryz.prog [pn_ U_ 2 s,.agg (i_ w)]=some (.bool (decide (w∈s))):=by show bo_ Tryz.prog ((⟨hnil,0,0⟩:AHeap).set 0 (.map (no_ (bA_ U_ s)) 0)) 173 (.map 0) (.agg (i_ w)) false=_;unfold bo_;simp only [Tryz.underlying173,Tryz.underlying176];show dA_ Tryz.prog _ 176 4 _ (.map 0) (.agg (i_ w)) false=_;unfold dA_;have hc:dS_ Tryz.prog 176 (.agg (i_ w))=true:=yD_ _ _;have hg:((⟨hnil,0,0⟩:AHeap).set 0 (.map (no_ (bA_ U_ s)) 0)).get 0=some (.map (no_ (bA_ U_ s)) 0):=rfl;obtain ⟨ti,hi,hz⟩:∃ti,Tryz.prog.info? 4=some ti/\ti.zero=some (.bool false):=⟨(Tryz.prog.info? 4).get!,by kernel_rfl,by kernel_rfl⟩;simp only [d5_,hc,Bool.and_self,hi,hz,hg];by_cases h:w∈s;obtain ⟨j,hj⟩:=(xx_ w s 0).1 h;simp only [hj,decide_eq_true h];rfl;simp only [(xx_ w s 0).2 h,decide_eq_false h];rfl
theorem zD_ (w:Nat×Nat):∀(s:List (Nat×Nat)),w∉s->rb_ Tryz.prog 176 (.agg (i_ w)) (.bool true) (bA_ U_ s)=some (bA_ U_ (s++[w]))
 |[],_=>rfl
 |q::s,h=>by have ih:=zD_ w s λhm=>h (List.mem_cons_of_mem _ hm);have hq:¬w=q:=λe=>h (e▸List.mem_cons_self ..);show rb_ Tryz.prog 176 (.agg (i_ w)) (.bool true) (.iface 0 (.agg (i_ q))::.bool true::bA_ U_ s)=_;unfold rb_;rw [show unK (.iface 0 (.agg (i_ q)))=.agg (i_ q) from rfl,eqQ,decide_eq_false hq];simp only [ih];rfl
theorem yI_ (w:Nat×Nat):(U_ w).length=2:=rfl
theorem xY_ (s:List (Nat×Nat)) (w:Nat×Nat) (h:w∉s):(XOp.mpu 173).run Tryz.prog [pn_ U_ 2 s,.agg (i_ w),.bool true]=some (pn_ U_ 2 (s++[w])):=by
 have hc:dS_ Tryz.prog 176 (.agg (i_ w))=true:=yD_ _ _;have hl:(bA_ U_ s).length=s.length*2:=b0_ yI_ s;have hl2:(bA_ U_ (s++[w])).length=(s.length+1)*2:=by rw [b0_ yI_];simp
 unfold XOp.run pn_;simp only [Tryz.underlying173,Tryz.underlying176,d5_,hc,Bool.and_self,zD_ w s h,ai_,hl,hl2];have e1:Nat.beq (Nat.mul s.length 2) (s.length*2)=true:=Nat.beq_refl _;have e2:Nat.div ((s.length+1)*2) 2=(s++[w]).length:=by show (s.length+1)*2/2=_;rw [Nat.mul_div_cancel _ (by decide)];simp
 simp only [e1,e2,Nat.beq_refl];rfl
def vc_:List (Nat×Nat)->Nat->Nat->List (Nat×Nat)
 |[],a,c=>[(a,c)]
 |q::r,a,c=>if a=q.1 then (q.1,c)::r else q::vc_ r a c
def cf_:List (Nat×Nat)->Nat->Nat
 |[],_=>0
 |q::r,a=>if a=q.1 then q.2 else cf_ r a
theorem vb_ (a c b:Nat):∀H:List (Nat×Nat),cf_ (vc_ H a c) b=if b=a then c else cf_ H b
 |[]=>rfl
 |q::r=>by by_cases h:a=q.1;simp only [vc_,if_pos h,cf_];by_cases hb:b=q.1;rw [if_pos hb,if_pos (hb.trans h.symm)];rw [if_neg hb,if_neg (λe=>hb (e.trans h)),if_neg hb];simp only [vc_,if_neg h,cf_,vb_ a c b r];by_cases hb:b=q.1;rw [if_pos hb,if_neg (λe=>h (e.symm.trans hb)),if_pos hb];rw [if_neg hb,if_neg hb]
theorem zx_ (a b:Nat):hr_ (.int .i64) (.int .i64 (a:Int)) (.int .i64 (b:Int))=some (decide (a=b)):=by
 show some (eqI (a:Int) (b:Int))=_;rw [fB_]
 congr 1
 rw [Bool.eq_iff_iff];simp only [beq_iff_eq,decide_eq_true_eq];omega
theorem yN_ (a c:Nat):∀H:List (Nat×Nat),mw_ (.int .i64) (.int .i64 (a:Int)) (.int .i64 (c:Int)) (bA_ i_ H)=some (bA_ i_ (vc_ H a c))
 |[]=>rfl
 |q::r=>by show mw_ (.int .i64) (.int .i64 (a:Int)) (.int .i64 (c:Int)) (.int .i64 (q.1:Int)::.int .i64 (q.2:Int)::bA_ i_ r)=_;unfold mw_;rw [zx_];by_cases h:a=q.1;rw [decide_eq_true h];simp only [vc_,if_pos h];rfl;rw [decide_eq_false h];simp only [yN_ a c r,vc_,if_neg h];rfl
theorem tl_ (a:Nat):∀(H:List (Nat×Nat)) (i:Nat),dC_ (.int .i64) (.int .i64 (a:Int)) (no_ (bA_ i_ H)) i=some none/\cf_ H a=0\/∃j,dC_ (.int .i64) (.int .i64 (a:Int)) (no_ (bA_ i_ H)) i=some (some (j,.int .i64 (cf_ H a:Int)))
 |[],i=>.inl ⟨rfl,rfl⟩
 |q::r,i=>by have e:no_ (bA_ i_ (q::r))=(.int .i64 (q.1:Int),.int .i64 (q.2:Int),0)::no_ (bA_ i_ r):=rfl;rw [e];unfold dC_;rw [zx_];by_cases h:a=q.1;rw [decide_eq_true h];simp only [cf_,if_pos h];exact .inr ⟨i,rfl⟩;rw [decide_eq_false h];simp only [cf_,if_neg h];exact tl_ a r (i+1)
theorem wG_ (H:List (Nat×Nat)) (a:Nat):(XOp.mlk 174).run Tryz.prog [pn_ i_ 2 H,.int .i64 (a:Int)]=some (.int .i64 (cf_ H a:Int)):=by show bo_ Tryz.prog ((⟨hnil,0,0⟩:AHeap).set 0 (.map (no_ (bA_ i_ H)) 0)) 174 (.map 0) (.int .i64 (a:Int)) false=_;have hg:((⟨hnil,0,0⟩:AHeap).set 0 (.map (no_ (bA_ i_ H)) 0)).get 0=some (.map (no_ (bA_ i_ H)) 0):=rfl;obtain ⟨ti,hi,hz⟩:∃ti,Tryz.prog.info? 3=some ti/\ti.zero=some (.int .i64 0):=⟨(Tryz.prog.info? 3).get!,by kernel_rfl,by kernel_rfl⟩;unfold bo_;simp only [Tryz.underlying174,Tryz.underlying3,gd_,hi,hz,hg];rcases tl_ a H 0 with ⟨h1,h2⟩|⟨j,h⟩;simp only [h1,h2];rfl;simp only [h];rfl
theorem xj_ (H:List (Nat×Nat)) (a c:Nat):(XOp.mput 174).run Tryz.prog [pn_ i_ 2 H,.int .i64 (a:Int),.int .i64 (c:Int)]=some (pn_ i_ 2 (vc_ H a c)):=by have hl:∀H:List (Nat×Nat),(bA_ i_ H).length=H.length*2:=λH=>b0_ wx_ H;unfold XOp.run pn_ tw_;simp only [Tryz.underlying174,Tryz.underlying3,gd_,yN_,ai_,hl];have e1:Nat.beq (Nat.mul H.length 2) (H.length*2)=true:=Nat.beq_refl _;have e2:Nat.div ((vc_ H a c).length*2) 2=(vc_ H a c).length:=Nat.mul_div_cancel _ (by decide);simp only [e1,e2,Nat.beq_refl,Bool.and_self]
theorem yi_ (w:Nat×Nat):okL (U_ w)=true:=rfl
def hts (s:List (Nat×Nat)):List (Nat×Nat):=s.foldl (λH w=>vc_ H w.1 (cf_ H w.1+1)) []
theorem xF_ (s:List (Nat×Nat)) (w:Nat×Nat):hts (s++[w])=vc_ (hts s) w.1 (cf_ (hts s) w.1+1):=by unfold hts;rw [List.foldl_append];rfl
theorem v6_ (a:Nat):∀(s H:List (Nat×Nat)),cf_ (s.foldl (λH w=>vc_ H w.1 (cf_ H w.1+1)) H) a=cf_ H a+cnt s a
 |[],H=>rfl
 |w::s,H=>by rw [List.foldl_cons,v6_ a s,vb_];unfold cnt;rw [List.countP_cons];by_cases h:a=w.1;subst h;simp;omega;have:¬((w.1==a)=true):=(by simpa using λe:w.1=a=>h e.symm);rw [if_neg h,if_neg this];omega
theorem wu_ (s:List (Nat×Nat)) (a:Nat):cf_ (hts s) a=cnt s a:=by have:=v6_ a s [];unfold hts;rw [this];show 0+cnt s a=_;omega
theorem yY_ (s:List (Nat×Nat)) (a:Nat):cnt s a<=s.length:=List.countP_le_length
theorem wP_ (l:List (Nat×Nat)):(XOp.len 177).run Tryz.prog [pn_ i_ 2 l]=some (.int .i64 (l.length:Int)):=(SlV.v (enc:=i_) (w:=2) l).len Tryz.underlying177
theorem x3_ {α:Type} {enc:α->List AV} {w:Nat} {l:List α} (h:l≠[]):pn_ enc w l=a3_ enc w l:=by
 cases l with
 |nil=>exact absurd rfl h
 |cons a r=>rfl
theorem A6_ {l:List (Nat×Nat)} {i:Nat} (hi:i<l.length):(XOp.inb).run Tryz.prog [pn_ i_ 2 l,.int .i64 (i:Int)]=some (.int .i64 (i:Int)):=by
 have hne:l≠[]:=λe=>by rw [e]at hi;exact absurd hi (Nat.not_lt_zero _)
 rw [x3_ hne];exact us_ hi .i64
theorem ldQ {l:List (Nat×Nat)} {i:Nat} (hi:i<l.length):(XOp.ldx 176 2 0).run Tryz.prog [pn_ i_ 2 l,.int .i64 (i:Int)]=some (.agg (i_ l[i])):=by
 have hne:l≠[]:=λe=>by rw [e]at hi;exact absurd hi (Nat.not_lt_zero _)
 rw [x3_ hne];exact xX_ (ti:=(Tryz.prog.info? 176).get!) Tryz.underlying176 rfl (by kernel_rfl) (by kernel_rfl) wx_ hi .i64
theorem tkQ (l:List (Nat×Nat)) {i:Nat} (hi:i<=l.length):(XOp.tkx).run Tryz.prog [pn_ i_ 2 l,pn_ i_ 2 l,.int .i64 (i:Int)]=some (pn_ i_ 2 (l.take i)):=by
 have h:=eT_ (bA_ i_ (l.take i)) (bA_ i_ (l.drop i));rw [←ev_,List.take_append_drop,b0_ wx_]at h;have hlen:(l.take i).length=i:=by rw [List.length_take];omega
 rw [hlen]at h;have hb:(Nat.beq 2 2&&(Nat.ble i l.length&&Nat.ble i l.length))=true:=by simp [hi]
 show (match Nat.beq 2 2&&(Nat.ble i l.length&&Nat.ble i l.length)with
  |true=>match aZ_ (Nat.mul i 2) (bA_ i_ l)with
   |some cs'=>some (AV.vsl i 2 cs')
   |none=>none
  |false=>none)=_
 rw [hb];have h':aZ_ (Nat.mul i 2) (bA_ i_ l)=some (bA_ i_ (l.take i)):=h;simp only [h'];unfold pn_;rw [hlen]
theorem x9_ (l:List (Nat×Nat)) (b h:Nat) (hl:l.length<=1000000):(XOp.app 2 16).run Tryz.prog [pn_ i_ 2 l,.agg [.int .i64 (b:Int),.int .i64 (h:Int)]]=some (pn_ i_ 2 (l++[(b,h)])):=by
 have hn:Nat.div (aM_ (i_ (b,h))) 2=1:=by rw [ai_,wx_]
 show id_ 2 16 (pn_ i_ 2 l) (Nat.div (aM_ (i_ (b,h))) 2) (i_ (b,h))=_;rw [hn];have h2:(bA_ i_ l).length=l.length*2:=b0_ wx_ l;unfold id_ pn_;have hd:decide ((i_ (b,h)).length=1*2)=true:=rfl;have c1:(Nat.ble (Nat.mul (Nat.add l.length 1) 16) 1073741824&&Nat.ble (Nat.add l.length 1) 1073741824&&Nat.blt 0 16)=true:=by have e:Nat.mul (Nat.add l.length 1) 16=(l.length+1)*16:=rfl;have e2:Nat.add l.length 1=l.length+1:=rfl;rw [e,e2,Nat.ble_eq_true_of_le (by omega),Nat.ble_eq_true_of_le (by omega)];rfl
 simp only [hd,h2,decide_true,and_self,c1,ev_,List.length_append];rfl
def f_ (l:List GI):WG where
 N:=l.length
 tk:=λa=>match l[a]? with
  |some g=>e_ g
  |none=>0
 lv:=λa=>match l[a]? with
  |some g=>(l_ g.op).toNat
  |none=>0
 goes:=λa=>match l[a]? with
  |some g=>j_ g a
  |none=>[]
structure Form (l:List GI) (cells:Int):Prop where
 n1:0<l.length
 n4:l.length<=400
 may:∀g∈l,g.May
 last:∀h:l.length-1<l.length,l[l.length-1].op=23
 plc:∀g∈l,g.Plc l.length cells
theorem Form.ok {l:List GI} {cells:Int} (h:Form l cells):(f_ l).Ok where
 pos:=h.n1
 inn:=λa ha b hb=>by have ha:a<l.length:=ha;have hb:b∈(match l[a]? with|some g=>j_ g a|none=>[]):=hb;rw [List.getElem?_eq_getElem ha]at hb;have hb:b∈j_ l[a] a:=hb;have hm:=C_ (h.may _ (List.getElem_mem ha));have hp:(l[a].op=20\/l[a].op=21->l[a].ad<(l.length:Int)):=(h.plc _ (List.getElem_mem ha)).2.2.2;have hn:l[a].op≠23->a+1<l.length:=λhne=>(by apply Classical.byContradiction;intro hc;have:a=l.length-1:=(by omega);subst this;exact hne (h.last ha));show b<l.length;unfold j_ at hb;split at hb;cases hb;split at hb;rw [List.mem_singleton.1 hb];have:=hp (.inl (by assumption));omega;split at hb;rcases List.mem_cons.1 hb with e|hb;rw [e];have:=hp (.inr (by assumption));omega;rw [List.mem_singleton.1 hb];exact hn (by omega);rw [List.mem_singleton.1 hb];exact hn (by assumption)
 two:=λa=>by
  show (match l[a]? with|some g=>j_ g a|none=>[]).length<=2;split
  .unfold j_;repeat' split
   all_goals simp
  simp
theorem yW_ {l:List GI} {a:Nat} (h:a<l.length):(f_ l).tk a=e_ l[a]:=by show (match l[a]? with|some g=>e_ g|none=>0)=_;rw [List.getElem?_eq_getElem h]
theorem yV_ {l:List GI} {a:Nat} (h:a<l.length):((f_ l).lv a:Int)=l_ l[a].op:=by show (((match l[a]? with|some g=>(l_ g.op).toNat|none=>0):Nat):Int)=_;rw [List.getElem?_eq_getElem h];show (((l_ l[a].op).toNat:Nat):Int)=_;unfold l_;split<;>rfl
theorem xa_ {l:List GI} {a:Nat} (h:a<l.length):(f_ l).goes a=j_ l[a] a:=by show (match l[a]? with|some g=>j_ g a|none=>[])=_;rw [List.getElem?_eq_getElem h]
theorem wQ_ {s s':List (Nat×Nat)} (h:pn_ U_ 2 s=pn_ U_ 2 s') (w:Nat×Nat):(w∈s)=(w∈s'):=by
 have a:=vW_ s w;rw [h,vW_ s' w]at a;injection a with a
 injection a with a
 exact propext (decide_eq_decide.1 a).symm
theorem xO_ {g:WG} {s s':List (Nat×Nat)} (h:∀w,(w∈s)=(w∈s')):left g s=left g s':=vI_ _ λi _=>by unfold vM_;exact decide_eq_decide.2 (by rw [h])
theorem iaN {l:List Nat} {i:Nat} (h:i<l.length):(XOp.iaddr 74).run Tryz.prog [a3_ Z_ 1 l,.int .i64 (i:Int)]=some (.vptr (bA_ Z_ (l.drop i))):=(SlV.of (enc:=Z_) (w:=1) l).ia (e:=3) Tryz.underlying74 (ti:=(Tryz.prog.info? 3).get!) (by kernel_rfl) (by kernel_rfl) A9_ h .i64
theorem zG_ (l:List Nat) (i:Nat):okC (.vptr (bA_ Z_ (l.drop i)))=true:=kP_ xc_ _
theorem ldN {l:List Nat} {i:Nat} (h:i<l.length):(XOp.load 3).run Tryz.prog [.vptr (bA_ Z_ (l.drop i))]=some (.int .i64 (l[i]:Int)):=by rw [List.drop_eq_getElem_cons h];exact sS_ Tryz.underlying3 rfl _ _
open Classical in
theorem p66 {l:List GI} {cells:Int} (hF:Form l cells) {x:AV} (hx:SlV g_ 7 l x):jw_ Tryz.prog 66 [x] (.tup [.bool (decide (f_ l).Full),.bool (decide (f_ l).Two)]):=by
 have okx:=hx.ok W_;have hg:=hF.ok;have n4:=hF.n4;refine t0_ (sh:=[none]) (ls:=[x]) (c:=c66) (n:=300) (t:=t66) mo ov (by rcases hx with rfl|⟨_,rfl⟩<;>rfl) (by simp only [okL,okx]) rfl (λY _=>vu_ _) rfl (by kernel_rfl) λY hf hg'=>?_;unfold t66;refine ux_ (ι:=List (Nat×Nat)×List (Nat×Nat)) (λp=>[.bool (s_ p.1),pn_ i_ 2 p.2,.bool (x_ (f_ l) p.1),pn_ U_ 2 p.1,pn_ i_ 2 (hts p.1)]) (λp=>Srch (f_ l) p.1 p.2) (λp=>2*left (f_ l) p.1+p.2.length) ([],[(0,0)]) (Srch.begin hg) rfl
  (λp _=>by simp only [okL,okC,r7_ uo_,r7_ yi_]) (λp q _ _ h=>?_) (λp hp=>?_)
 have h2:=(List.cons.inj (List.cons.inj h).2).1;have h4:=(List.cons.inj (List.cons.inj (List.cons.inj (List.cons.inj h).2).2).2).1;have e1:=xO_ (g:=f_ l) (wQ_ h4);have e2:p.2.length=q.2.length:=(AV.vsl.inj h2).1;rw [e1,e2];obtain ⟨s,td⟩:=p;have hS:Srch (f_ l) s td:=hp;refine VOK_lt (wP_ td) rfl (VOK_lt (run_gtr ..) rfl (u8_ rfl (λh0=>?_) (λh0=>?_)))
 rotate_left
 have h0:¬(0:Int)<(td.length:Int):=dF h0;have hn:td=[]:=List.length_eq_zero_iff.1 (by omega);subst hn;refine uw_ ?_;show AV.tup [.bool (x_ (f_ l) s),.bool (s_ s)]=_;have e1:x_ (f_ l) s=decide (f_ l).Full:=Bool.eq_iff_iff.2 (hS.full.trans (decide_eq_true_iff).symm);have e2:s_ s=decide (f_ l).Two:=Bool.eq_iff_iff.2 (hS.two.trans (decide_eq_true_iff).symm);rw [e1,e2];have h0:(0:Int)<(td.length:Int):=dT h0;have hlt:td.length-1<td.length:=by omega
 have hsz:=hS.lt;have hN:(f_ l).N=l.length:=rfl;rw [hN]at hsz;have em:IntKind.i64.wrap ((td.length:Int)-1)=((td.length-1:Nat):Int):=by rw [vE_ (by omega) (by omega)];omega
 obtain ⟨t,ht⟩:∃t,td.take (td.length-1)=t:=⟨_,rfl⟩;obtain ⟨w,hw⟩:∃w,td[td.length-1]=w:=⟨_,rfl⟩;have htd:td=t++[w]:=by rw [←ht,←hw];have:=(List.take_append_drop (td.length-1) td).symm;rw [List.drop_eq_getElem_cons hlt,List.drop_of_length_le (by omega)]at this;exact this
 have hmem:∀v,v∈td↔v=w\/v∈t:=λv=>by rw [htd,List.mem_append,List.mem_singleton];exact Or.comm
 have hlen:t.length+1=td.length:=by rw [htd,List.length_append];rfl
 have hwt:=hS.rt w ((hmem w).2 (.inl rfl));have hw1:w.1<l.length:=hwt.2.1;have hw2:=hwt.2.2;have hgm:=hF.may _ (List.getElem_mem hw1);have hmb:=C_ hgm;have htk:=yW_ hw1;have hlv:=yV_ hw1;have hgo:=xa_ hw1;have htk8:e_ l[w.1]<=8:=by unfold e_;(repeat' split)<;>omega
 have hgv:0<=l_ l[w.1].op/\l_ l[w.1].op<=1:=by unfold l_;split<;>omega
 refine VOK_lt (wP_ td) rfl (VOK_lt (r:=.int .i64 ((td.length-1:Nat):Int)) (by rw [←em];exact run_sub ..) rfl (VOK_lt (A6_ hlt) rfl (u9_ (ldQ hlt) rfl (uo_ _) ?_)));refine VOK_lt (wP_ td) rfl (VOK_lt (r:=.int .i64 ((td.length-1:Nat):Int)) (by rw [←em];exact run_sub ..) rfl (VOK_lt (tkQ td (i:=td.length-1) (by omega)) (r7_ uo_ _) ?_));rw [ht,hw];refine VOK_lt (vW_ s w) rfl (u8_ rfl (λhin=>?_) (λhin=>?_));have hin:w∈s:=dT hin;exact ul_ rfl ⟨(s,t),hS.seen hmem hlen hin,rfl,by show 2*left (f_ l) s+t.length<2*left (f_ l) s+td.length;omega⟩;have hns:w∉s:=dF hin;have hcnt:cnt s w.1<=1000000:=by have h1:=yY_ s w.1;have h2:=Srch.len_le hS;have hN:(f_ l).N=l.length:=rfl;omega
 have hfr:(f_ l).full w=true->Srch (f_ l) (s++[w]) t/\2*left (f_ l) (s++[w])+t.length<2*left (f_ l) s+td.length:=λhfull=>by have hnx:(f_ l).nxt w=[]:=(by unfold WG.nxt;rw [if_pos hfull]);exact Srch.fresh hg hS (w:=w) (t':=t) (t2:=t) hmem hlen hns (λv=>by rw [hnx];simp) (by rw [hnx];rfl)
 have eh:IntKind.i64.wrap ((cnt s w.1:Int)+1)=((cnt s w.1+1:Nat):Int):=by rw [vE_ (by omega) (by omega)];rfl
 have hH:=xF_ s w;rw [wu_]at hH;have m1:=wG_ (hts s) w.1;rw [wu_]at m1;have m2:=xj_ (hts s) w.1 (cnt s w.1+1);rw [←hH]at m2;have m3:=wG_ (hts (s++[w])) w.1;have c3:cf_ (hts (s++[w])) w.1=cnt s w.1+1:=by rw [hH,vb_,if_pos rfl]
 rw [c3]at m3;have st_eq:∀{u f:Bool},u=s_ (s++[w])->f=x_ (f_ l) (s++[w])->[AV.bool u,pn_ i_ 2 t,.bool f,pn_ U_ 2 (s++[w]),pn_ i_ 2 (hts (s++[w]))]=[AV.bool (s_ (s++[w])),pn_ i_ 2 t,.bool (x_ (f_ l) (s++[w])),pn_ U_ 2 (s++[w]),pn_ i_ 2 (hts (s++[w]))]:=λh1 h2=>by rw [h1,h2]
 refine VOK_lt (xY_ s w hns) (r7_ yi_ _) (VOK_lt m1 rfl (VOK_lt (r:=.int .i64 ((cnt s w.1+1:Nat):Int)) (by rw [←eh];exact run_add ..) rfl (VOK_lt m2 (r7_ uo_ _) (u8_ rfl (λhu=>?_) (λhu=>?_)))))
 .have hu:s_ s=true:=hu;have u1:true=s_ (s++[w]):=by rw [vp_,hu];rfl
  (
   refine VOK_lt (iaI hx hw1) (vO_ l w.1) (u9_ (ldI hw1) rfl (W_ _) (uv_ (zL_ hgm) rfl rfl ?_));refine VOK_lt (r:=.int .i64 ((w.2:Int)-(e_ l[w.1]:Int))) (by rw [←vE_ (x:=(w.2:Int)-(e_ l[w.1]:Int)) (by omega) (by omega)];exact run_sub ..) rfl ?_;refine VOK_lt (r:=.int .i64 ((w.2:Int)-(e_ l[w.1]:Int)+l_ l[w.1].op)) (by rw [←vE_ (x:=(w.2:Int)-(e_ l[w.1]:Int)+l_ l[w.1].op) (by omega) (by omega)];exact run_add ..) rfl ?_;refine VOK_lt (run_lss ..) rfl (u8_ rfl (λhlow=>?_) (λhlow=>?_));have hlow:(w.2:Int)<(e_ l[w.1]:Int):=dT hlow;have hfull:(f_ l).full w=true:=(by unfold WG.full;rw [htk,decide_eq_true (by omega)];rfl);exact ul_ rfl ⟨(s++[w],t),(hfr hfull).1,st_eq u1 (by rw [z_,hfull,Bool.or_true]),(hfr hfull).2⟩;have hlow:¬(w.2:Int)<(e_ l[w.1]:Int):=dF hlow;refine VOK_lt (run_gtr ..) rfl (u8_ rfl (λhhi=>?_) (λhhi=>?_));have hhi:(16:Int)<(w.2:Int)-(e_ l[w.1]:Int)+l_ l[w.1].op:=dT hhi;have hfull:(f_ l).full w=true:=(by unfold WG.full;rw [htk,decide_eq_true (p:=16<w.2-e_ l[w.1]+(f_ l).lv w.1) (by omega),Bool.or_true]);exact ul_ rfl ⟨(s++[w],t),(hfr hfull).1,st_eq u1 (by rw [z_,hfull,Bool.or_true]),(hfr hfull).2⟩;have hhi:¬(16:Int)<(w.2:Int)-(e_ l[w.1]:Int)+l_ l[w.1].op:=dF hhi;have hfull:(f_ l).full w=false:=(by unfold WG.full;rw [htk,decide_eq_false (by omega),decide_eq_false (by omega)];rfl);have hhiN:((w.2:Int)-(e_ l[w.1]:Int)+l_ l[w.1].op)=(((f_ l).hi w:Nat):Int):=(by unfold WG.hi;rw [htk];omega);rw [hhiN];have hnx:(f_ l).nxt w=(j_ l[w.1] w.1).map λb=>(b,(f_ l).hi w):=(by unfold WG.nxt;rw [if_neg (by rw [hfull];decide),hgo]);have hgl:(j_ l[w.1] w.1).length<=2:=(by rw [←hgo];exact hg.two _);refine VOK_lt (iaI hx hw1) (vO_ l w.1) (u9_ (ldI hw1) rfl (W_ _) (uv_ (zM_ hgm (a:=w.1) (by omega)) rfl (by show okL [a3_ Z_ 1 _]=true;simp only [okL,t8_ xc_]) (VOK_lt ((SlV.of (enc:=Z_) (w:=1) _).len Tryz.underlying74) rfl ?_)));refine ux_ (ι:=Nat) (λi=>[.int .i64 (i:Int),.int .i64 (((f_ l).hi w:Nat):Int),pn_ i_ 2 (t++((j_ l[w.1] w.1).take i).map λb=>(b,(f_ l).hi w)),a3_ Z_ 1 (j_ l[w.1] w.1),.bool (s_ (s++[w])),.int .i64 ((j_ l[w.1] w.1).length:Int),pn_ U_ 2 (s++[w]),pn_ i_ 2 (hts (s++[w]))])
    (λi=>i<=(j_ l[w.1] w.1).length) (λi=>(j_ l[w.1] w.1).length-i) 0 (Nat.zero_le _) (by show [_,_,_,_,_,_,_,_]=[_,_,_,_,_,_,_,_];rw [List.take_zero,List.map_nil,List.append_nil,u1];rfl) (λi _=>by simp only [okL,okC,r7_ uo_,r7_ yi_,t8_ xc_]) (λi j _ _ h=>?_) (λi hi=>?_)
   .have h:=(List.cons.inj h).1;injection h with _ h
    omega
   refine VOK_lt (run_lss ..) rfl (u8_ rfl (λhlt=>?_) (λhlt=>?_));have hlt:(i:Int)<((j_ l[w.1] w.1).length:Int):=dT hlt;have hlt:i<(j_ l[w.1] w.1).length:=(by omega);refine VOK_lt (iaN hlt) (zG_ _ i) (VOK_lt (ldN hlt) rfl (VOK_lt (x9_ _ _ _ (by rw [List.length_append,List.length_map,List.length_take];omega)) (r7_ uo_ _) (VOK_lt (run_add ..) rfl (ul_ rfl ⟨i+1,hlt,?_,by omega⟩))));show [AV.int .i64 (IntKind.i64.wrap ((i:Int)+1)),_,_,_,_,_,_,_]=[AV.int .i64 ((i+1:Nat):Int),_,_,_,_,_,_,_];rw [vE_ (by omega) (by omega),List.take_add_one,List.getElem?_eq_getElem hlt,Option.toList_some,List.map_append,←List.append_assoc];rfl
   .have hlt:¬(i:Int)<((j_ l[w.1] w.1).length:Int):=dF hlt;have hti:(j_ l[w.1] w.1).take i=j_ l[w.1] w.1:=List.take_of_length_le (by omega);have hf2:=Srch.fresh hg hS (w:=w) (t':=t) (t2:=t++(f_ l).nxt w) hmem hlen hns (λv=>List.mem_append) List.length_append;refine ul_ rfl ⟨(s++[w],t++(f_ l).nxt w),hf2.1,?_,hf2.2⟩;show [AV.bool (s_ (s++[w])),_,AV.bool (x_ (f_ l) s),_,_]=[AV.bool (s_ (s++[w])),_,AV.bool (x_ (f_ l) (s++[w])),_,_];rw [z_,hfull,Bool.or_false,hti,hnx];rfl)
 .have hu:s_ s=false:=hu;have u2:decide (1<((cnt s w.1+1:Nat):Int))=s_ (s++[w]):=(by rw [vp_,hu,Bool.false_or];exact decide_eq_decide.2 (by omega));refine VOK_lt m3 rfl (VOK_lt (run_gtr ..) rfl ?_)
  (
   refine VOK_lt (iaI hx hw1) (vO_ l w.1) (u9_ (ldI hw1) rfl (W_ _) (uv_ (zL_ hgm) rfl rfl ?_));refine VOK_lt (r:=.int .i64 ((w.2:Int)-(e_ l[w.1]:Int))) (by rw [←vE_ (x:=(w.2:Int)-(e_ l[w.1]:Int)) (by omega) (by omega)];exact run_sub ..) rfl ?_;refine VOK_lt (r:=.int .i64 ((w.2:Int)-(e_ l[w.1]:Int)+l_ l[w.1].op)) (by rw [←vE_ (x:=(w.2:Int)-(e_ l[w.1]:Int)+l_ l[w.1].op) (by omega) (by omega)];exact run_add ..) rfl ?_;refine VOK_lt (run_lss ..) rfl (u8_ rfl (λhlow=>?_) (λhlow=>?_));have hlow:(w.2:Int)<(e_ l[w.1]:Int):=dT hlow;have hfull:(f_ l).full w=true:=(by unfold WG.full;rw [htk,decide_eq_true (by omega)];rfl);exact ul_ rfl ⟨(s++[w],t),(hfr hfull).1,st_eq u2 (by rw [z_,hfull,Bool.or_true]),(hfr hfull).2⟩;have hlow:¬(w.2:Int)<(e_ l[w.1]:Int):=dF hlow;refine VOK_lt (run_gtr ..) rfl (u8_ rfl (λhhi=>?_) (λhhi=>?_));have hhi:(16:Int)<(w.2:Int)-(e_ l[w.1]:Int)+l_ l[w.1].op:=dT hhi;have hfull:(f_ l).full w=true:=(by unfold WG.full;rw [htk,decide_eq_true (p:=16<w.2-e_ l[w.1]+(f_ l).lv w.1) (by omega),Bool.or_true]);exact ul_ rfl ⟨(s++[w],t),(hfr hfull).1,st_eq u2 (by rw [z_,hfull,Bool.or_true]),(hfr hfull).2⟩;have hhi:¬(16:Int)<(w.2:Int)-(e_ l[w.1]:Int)+l_ l[w.1].op:=dF hhi;have hfull:(f_ l).full w=false:=(by unfold WG.full;rw [htk,decide_eq_false (by omega),decide_eq_false (by omega)];rfl);have hhiN:((w.2:Int)-(e_ l[w.1]:Int)+l_ l[w.1].op)=(((f_ l).hi w:Nat):Int):=(by unfold WG.hi;rw [htk];omega);rw [hhiN];have hnx:(f_ l).nxt w=(j_ l[w.1] w.1).map λb=>(b,(f_ l).hi w):=(by unfold WG.nxt;rw [if_neg (by rw [hfull];decide),hgo]);have hgl:(j_ l[w.1] w.1).length<=2:=(by rw [←hgo];exact hg.two _);refine VOK_lt (iaI hx hw1) (vO_ l w.1) (u9_ (ldI hw1) rfl (W_ _) (uv_ (zM_ hgm (a:=w.1) (by omega)) rfl (by show okL [a3_ Z_ 1 _]=true;simp only [okL,t8_ xc_]) (VOK_lt ((SlV.of (enc:=Z_) (w:=1) _).len Tryz.underlying74) rfl ?_)));refine ux_ (ι:=Nat) (λi=>[.int .i64 (i:Int),.int .i64 (((f_ l).hi w:Nat):Int),pn_ i_ 2 (t++((j_ l[w.1] w.1).take i).map λb=>(b,(f_ l).hi w)),a3_ Z_ 1 (j_ l[w.1] w.1),.bool (s_ (s++[w])),.int .i64 ((j_ l[w.1] w.1).length:Int),pn_ U_ 2 (s++[w]),pn_ i_ 2 (hts (s++[w]))])
    (λi=>i<=(j_ l[w.1] w.1).length) (λi=>(j_ l[w.1] w.1).length-i) 0 (Nat.zero_le _) (by show [_,_,_,_,_,_,_,_]=[_,_,_,_,_,_,_,_];rw [List.take_zero,List.map_nil,List.append_nil,u2];rfl) (λi _=>by simp only [okL,okC,r7_ uo_,r7_ yi_,t8_ xc_]) (λi j _ _ h=>?_) (λi hi=>?_)
   .have h:=(List.cons.inj h).1;injection h with _ h
    omega
   refine VOK_lt (run_lss ..) rfl (u8_ rfl (λhlt=>?_) (λhlt=>?_));have hlt:(i:Int)<((j_ l[w.1] w.1).length:Int):=dT hlt;have hlt:i<(j_ l[w.1] w.1).length:=(by omega);refine VOK_lt (iaN hlt) (zG_ _ i) (VOK_lt (ldN hlt) rfl (VOK_lt (x9_ _ _ _ (by rw [List.length_append,List.length_map,List.length_take];omega)) (r7_ uo_ _) (VOK_lt (run_add ..) rfl (ul_ rfl ⟨i+1,hlt,?_,by omega⟩))));show [AV.int .i64 (IntKind.i64.wrap ((i:Int)+1)),_,_,_,_,_,_,_]=[AV.int .i64 ((i+1:Nat):Int),_,_,_,_,_,_,_];rw [vE_ (by omega) (by omega),List.take_add_one,List.getElem?_eq_getElem hlt,Option.toList_some,List.map_append,←List.append_assoc];rfl
   .have hlt:¬(i:Int)<((j_ l[w.1] w.1).length:Int):=dF hlt;have hti:(j_ l[w.1] w.1).take i=j_ l[w.1] w.1:=List.take_of_length_le (by omega);have hf2:=Srch.fresh hg hS (w:=w) (t':=t) (t2:=t++(f_ l).nxt w) hmem hlen hns (λv=>List.mem_append) List.length_append;refine ul_ rfl ⟨(s++[w],t++(f_ l).nxt w),hf2.1,?_,hf2.2⟩;show [AV.bool (s_ (s++[w])),_,AV.bool (x_ (f_ l) s),_,_]=[AV.bool (s_ (s++[w])),_,AV.bool (x_ (f_ l) (s++[w])),_,_];rw [z_,hfull,Bool.or_false,hti,hnx];rfl)
end Go.Proofs.YtelnbodnjmldeaaGreat.vars
