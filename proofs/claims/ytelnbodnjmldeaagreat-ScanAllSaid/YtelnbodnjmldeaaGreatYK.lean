/-
  Mach's laws: what they begin with.
-/
import Derived.Test.YtelnbodnjmldeaaGreatYF
import Derived.Test.YtelnbodnjmldeaaGreatFA
import Derived.Test.YtelnbodnjmldeaaGreatSyK
set_option linter.all false
set_option maxHeartbeats 1000000
set_option maxRecDepth 100000
open List renaming not_mem_nil→za',mem_cons_self→zb',mem_cons_of_mem→zc',getElem_mem→ze',mem_append_left→zf',mem_append_right→zg'
open Nat renaming zero_le→zd',beq_refl→zh',not_lt_zero→zi'
namespace Go.Proofs.YtelnbodnjmldeaaGreat.vars
open Go Go.Sx
def sf {b:List GS} {e:Bool} (h0:e=false->b=[]) (h1:e=true->b.length<=5/\∀s∈b,TS 3 s):b.length<=5/\∀s∈b,TS 3 s:=by
 cases e with
 |true=>exact h1 rfl
 |false=>rw [h0 rfl];exact ⟨zd' _,λs hs=>(za' hs).elim⟩
def Bn_ {x:List GS} (h:pe x=0):(q_ x).length<=400/\pl x=h_ (q_ x):=by unfold pe at h;split at h;rename_i hl;exact ⟨hl,by unfold pl;rw [Ad hl]⟩;cases h
def qQ {x:List GS} (hT:∀s∈x,TS 3 s) {mem:List FV} (hm:Aw mem) {now:Int}:Gh (q_ x) (F8 x) (Nn mem now):=by
 have h0:=qE hT;have hl:0<(q_ x).length:=by rw [←oX];exact (List.getElem?_eq_some_iff.1 h0).1
 exact ⟨0,(q_ x)[0],[],rfl,List.getElem?_eq_getElem hl,h0,rfl,λv hv=>(za' hv).elim,hm⟩
def Gh.small {l:List GI} {T:List (List Int)} {m:MS} (hG:Av T 0 l) (h:Gh l T m):m.st.length<=40/\Aw m.mem:=by obtain ⟨p,i,K,h⟩:=h;have hT:=hG p i K h.at_ (by rw [Nat.zero_add];exact h.ty);obtain ⟨K0,ks,e,_,h40,_⟩:=hT;have:=congrArg List.length h.st;rw [List.length_map]at this;exact ⟨by omega,h.mem⟩
def oz (l:List GI) {m:MS} {s:AV} (hs:St m.st s) {r:List AV} (hr:Ak r=true):Ak (h_ l::(KR m s++r))=true:=xz l m (St.okC hs) hr
def yS:VC:=⟨⟨[],[]⟩,[],[],0,true,[]⟩
def li:VT:=It Z7 [64,65] 67 (Li Zt [64,66] 68<|.done (68))<|Ψ
def pH:VC:=⟨⟨[],[]⟩,[(108,[none])],[],0,true,[]⟩
def rN:VT:=.call 108 [66,J 0,J 63] 71 [none]<|.done (71)
def Hj_:VC:=⟨⟨[],[]⟩,[(108,[none])],[],0,true,[]⟩
def sb:VT:=.call 108 [66,J 0,J 399] 71 [none]<|.done (71)
def sZ:VC:=⟨⟨[],[]⟩,[],[],0,true,[]⟩
def iX:VT:=Iq 64 11 65 (.done (J 1))<|Iq 64 12 66 (.done (J 1))<|.done (J 2)
def Hl_:VC:=⟨⟨[],[]⟩,[],[],0,true,[]⟩
def oN:VT:=Iq 64 9 65 (.done (.tup [J 1,J 5]))<|Iq 64 10 66 (.done (.tup [J 1,J 5]))<|Iq 64 13 67 (.done (.tup [J 1,J 1]))<|Iq 64 14 68 (.done (.tup [J 1,J 1]))<|Iq 64 15 69 (.done (.tup [J 1,J 1]))<|Iq 64 8 70 (.done (.tup [J 2,J 4]))<|.done (.tup [J 2,J 5])
def Hg_:VC:=⟨⟨[],[]⟩,[],[],0,true,[]⟩
def lU:VT:=Iq 64 0 67 (It Qt [65,J 0] 68 (It Zf [66,66] 69 Ψ<|Li (.ext 159) [66] 70<|Li Ui [70,.int .u64 0] 71<|.done (71))<|Ψ)<|Ψ
def qH:VC:=⟨⟨[],[]⟩,[],[],0,true,[]⟩
def gZ:VT:=Iq 64 5 67 (Li Qt [65,J 0] 68<|.done (68))<|It Zf [66,66] 68 Ψ<|Li (.ext 159) [66] 69<|It Uj [69,.int .u64 0] 70 Ψ<|Iq 64 1 71 (It Qt [65,J 0] 72 Ω<|Li Qt [65,J 1] 73<|.done (73))<|Iq 64 2 72 (Li (.conv 2 219) [65] 73<|Li (.conv 219 2) [73] 74<|Li Qq [65,74] 75<|.done (75))<|Iq 64 3 73 (Li (.conv 2 21) [65] 74<|Li (.conv 21 2) [74] 75<|Li Qq [65,75] 76<|.done (76))<|Li Q0 [64,J 4] 74<|.done (74)
def u5:VC:=⟨⟨[],[]⟩,[(106,[none]),(105,[none]),(111,[none,none]),(110,[none]),(107,[none]),(108,[none]),(109,[none])],[],0,true,[]⟩
def ct:VT:=Iq 64 1 71 (Iq 66 0 72 (Iq 67 0 73 (It Q9 [65,68] 74 (.call 105 [.agg [68,69,70]] 75 [none]<|.done (75))<|Ψ)<|Ψ)<|Ψ)<|.call 106 [.agg [68,69,70]] 72 [none]<|It Q6 [72] 73 Ψ<|Iq 64 2 74 (Iq 65 0 75 (Iq 67 0 76 (.call 107 [.agg (Ae 64 7)] 77 [none]<|.done (77))<|Ψ)<|Ψ)<|Iq 64 18 75 (Iq 65 0 76 (Iq 67 0 77 (.call 107 [.agg (Ae 64 7)] 78 [none]<|.done (78))<|Ψ)<|Ψ)<|Iq 64 3 76 (Iq 65 0 77 (.call 107 [.agg (Ae 64 7)] 78 [none]<|.ite 78 (.call 108 [67,J 1,J 8] 79 [none]<|.done (79))<|Ψ)<|Ψ)<|Iq 64 19 77 (Iq 65 0 78 (.call 107 [.agg (Ae 64 7)] 79 [none]<|.ite 79 (.call 108 [67,J 1,J 8] 80 [none]<|.done (80))<|Ψ)<|Ψ)<|Iq 64 20 78 (Iq 65 0 79 (Iq 67 0 80 (.call 109 [.agg (Ae 64 7)] 81 [none]<|.done (81))<|Ψ)<|Ψ)<|Iq 64 21 79 (Iq 65 0 80 (Iq 67 0 81 (.call 109 [.agg (Ae 64 7)] 82 [none]<|.done (82))<|Ψ)<|Ψ)<|Iq 64 22 80 (.call 108 [65,J 6,J 12] 81 [none]<|.ite 81 (.call 107 [.agg (Ae 64 7)] 82 [none]<|.ite 82 (.call 110 [65] 83 [none]<|Li Q9 [67,83] 84<|.done (84))<|Ψ)<|Ψ)<|Iq 64 23 81 (Iq 65 0 82 (Iq 66 0 83 (Li Q0 [67,J 0] 84<|.done (84))<|Ψ)<|Ψ)<|Iq 64 17 82 (Iq 66 0 83 (.call 108 [65,J 2,J 5] 84 [none]<|.ite 84 (.call 108 [67,J 2,J 5] 85 [none]<|.done (85))<|Ψ)<|Ψ)<|.call 111 [64] 83 [none,none]<|.call 108 [64,J 4,J 16] 85 [none]<|.ite 85 (Iq 66 0 86 (Iq 67 0 87 (.call 108 [65,83,84] 88 [none]<|.done (88))<|Ψ)<|Ψ)<|Ψ
def p7:VC:=⟨⟨[],[]⟩,[],[],0,true,[]⟩
def dD:VT:=It Q4 [64,J 1] 65 (It Q8 [64,J 5] 66 (.done (J 1))<|It Q4 [64,J 6] 67 (It Q8 [64,J 8] 68 (.done (J 4))<|Iq 64 9 69 (.done (J 3))<|Iq 64 10 70 (.done (J 3))<|Iq 64 11 71 (.done (J 2))<|Iq 64 12 72 (.done (J 2))<|.done (J 0))<|Iq 64 9 68 (.done (J 3))<|Iq 64 10 69 (.done (J 3))<|Iq 64 11 70 (.done (J 2))<|Iq 64 12 71 (.done (J 2))<|.done (J 0))<|It Q4 [64,J 6] 66 (It Q8 [64,J 8] 67 (.done (J 4))<|Iq 64 9 68 (.done (J 3))<|Iq 64 10 69 (.done (J 3))<|Iq 64 11 70 (.done (J 2))<|Iq 64 12 71 (.done (J 2))<|.done (J 0))<|Iq 64 9 67 (.done (J 3))<|Iq 64 10 68 (.done (J 3))<|Iq 64 11 69 (.done (J 2))<|Iq 64 12 70 (.done (J 2))<|.done (J 0)
section
variable {Q:AV->Prop} {L:List (Nat->List AV->Prop)} {Y:Sy}
def bE {p q:Prop} [Decidable p] [Decidable q] (h:p↔q):AV.bool (decide p)=AV.bool (decide q):=congrArg AV.bool (decide_eq_decide.2 h)
def bT {q:Prop} [Decidable q] (h:q):AV.bool true=AV.bool (decide q):=congrArg AV.bool (AD h).symm
def bF {q:Prop} [Decidable q] (h:¬q):AV.bool false=AV.bool (decide q):=congrArg AV.bool (A4 h).symm
def bN {p q:Prop} [Decidable p] [Decidable q] (h:¬p↔q):AV.bool (!decide p)=AV.bool (decide q):=by rw [←decide_not];exact bE h
def dT {p:Prop} [Decidable p] (h:decide p=true):p:=AU h
def dF {p:Prop} [Decidable p] (h:decide p=false):¬p:=Ce h
end
def EK (k i:Int) (f:Nat):Prop:=(k=5/\i=0)\/(f=0/\((k=1/\(i=0\/i=1))\/(k=2/\ -32768<=i/\i<=32767)\/(k=3/\ -2147483648<=i/\i<=2147483647)\/k=4))
instance (k i:Int) (f:Nat):Decidable (EK k i f):=by unfold EK;infer_instance
def IQ (op:Int):Int:=if op=9\/op=10\/op=13\/op=14\/op=15 then 1 else 2
def IY (op:Int):Int:=if op=13\/op=14\/op=15 then 1 else if op=8 then 4 else 5
def D6 (op kd ad n vk vi:Int) (vf:Nat):Prop:=(op=1/\ad=0/\n=0/\kd=vk/\EK vk vi vf)\/(op≠1/\vk=0/\vi=0/\vf=0/\
 (((op=2\/op=18)/\kd=0/\n=0/\0<=ad/\ad<=63)\/((op=3\/op=19)/\kd=0/\0<=ad/\ad<=63/\1<=n/\n<=8)\/((op=20\/op=21)/\kd=0/\n=0/\0<=ad/\ad<=399)\/
  (op=22/\6<=kd/\kd<=12/\0<=ad/\ad<=63/\n=(if kd=11\/kd=12 then 1 else 2))\/(op=23/\kd=0/\ad=0/\n=0)\/(op=17/\ad=0/\2<=kd/\kd<=5/\2<=n/\n<=5)\/
  (4<=op/\op<=16/\ad=0/\n=0/\IQ op<=kd/\kd<=IY op)))
instance (op kd ad n vk vi:Int) (vf:Nat):Decidable (D6 op kd ad n vk vi vf):=by unfold D6;infer_instance
def GO (n a b:Int):AJ 108 [.int .i64 n,.int .i64 a,.int .i64 b] (.bool (decide (a<=n/\n<=b))):=by refine Bx [none,none,none] [.int .i64 n,.int .i64 a,.int .i64 b] yS li rfl rfl rfl rfl rfl (by kernel_rfl) λY hf hg=>?_;unfold li;refine Aa (A8 ..) rfl (Ax rfl (λh=>Aa (Bq ..) rfl (Ap (bE ?_))) (λh=>Ap (bF ?_)));have:=dT h;omega;have:=dF h;omega
def xG (g:GI):AJ 107 [.agg (k_ g)] (.bool (decide (0<=g.ad/\g.ad<=63))):=by refine Bx [some 7] (k_ g) pH rN rfl (BM _) rfl rfl rfl (by kernel_rfl) λY hf hg=>?_;exact Aq (GO _ _ _) rfl rfl (Ap rfl)
def Iv_ (g:GI):AJ 109 [.agg (k_ g)] (.bool (decide (0<=g.ad/\g.ad<=399))):=by refine Bx [some 7] (k_ g) Hj_ sb rfl (BM _) rfl rfl rfl (by kernel_rfl) λY hf hg=>?_;exact Aq (GO _ _ _) rfl rfl (Ap rfl)
def iK {a b:Int} (h:a=b):AV.int .i64 a=AV.int .i64 b:=by rw [h]
def tK {a b c d:Int} (h:a=c) (h':b=d):AV.tup [.int .i64 a,.int .i64 b]=.tup [.int .i64 c,.int .i64 d]:=by rw [h,h']
def yz (k:Int):AJ 110 [.int .i64 k] (.int .i64 (if k=11\/k=12 then 1 else 2)):=by
 refine Bx [none] [.int .i64 k] sZ iX rfl rfl rfl rfl rfl (by kernel_rfl) λY hf hg=>?_;unfold iX;repeat' (refine g_ rfl rfl ?_ ?_<;>intro h<;>simp only [nc]at h<;>try omega)
 all_goals exact Ap (iK (by split<;>omega))
def Ix_ (op:Int):AJ 111 [.int .i64 op] (.tup [.int .i64 (IQ op),.int .i64 (IY op)]):=by
 refine Bx [none] [.int .i64 op] Hl_ oN rfl rfl rfl rfl rfl (by kernel_rfl) λY hf hg=>?_;unfold oN;repeat' (refine g_ rfl rfl ?_ ?_<;>intro h<;>simp only [nc]at h<;>try omega)
 all_goals exact Ap (tK (by unfold IQ;split<;>omega) (by unfold IY;(repeat' split)<;>omega))
def ZR (n:Nat):(XOp.ext 159).run Tryz.prog [.flt .f64 n]=some (.int .u64 (n:Int)):=by kernel_rfl
def XU {n:Nat} (h:Cp n=true):n≠0:=by unfold Cp at h;have:=AU h;omega
def bm (n:Nat):Int:=if Cp n=true then 9221120237041090561 else (n:Int)
def Y6 (n:Nat):bm n=0↔n=0:=by unfold bm;split;rename_i h;have:=XU h;omega;omega
def Tj (n:Nat):AJ 119 [.flt .f64 n] (.int .u64 (bm n)):=by refine Bx [none] [.flt .f64 n] iy Td rfl rfl rfl rfl rfl (by kernel_rfl) λY hf hg=>?_;unfold Td;refine Aa (Xc ..) rfl (Ax rfl (λh=>Ap ?_) (λh=>Aa (ZR n) rfl (Ap ?_)));have h:Cp n=true:=h;exact congrArg (AV.int .u64) (Ad h).symm;have h:Cp n=false:=h;exact congrArg (AV.int .u64) (Ab (by rw [h];exact Bool.false_ne_true)).symm
def uF (k i:Int) (f:Nat):AJ 106 [.agg [.int .i64 k,.int .i64 i,.flt .f64 f]] (.bool (decide (k=0/\i=0/\f=0))):=by refine Bx [some 3] [.int .i64 k,.int .i64 i,.flt .f64 f] Hg_ lU rfl rfl rfl rfl rfl (by kernel_rfl) λY hf hg=>?_;unfold lU;refine Aa (Am ..) rfl (Ax rfl (λh=>?_) (λh=>Ap (bF (by have:=dF h;omega))));refine Aa (Am ..) rfl (Ax rfl (λh2=>?_) (λh2=>Ap (bF (by have:=dF h2;omega))));have h:=dT h;have h2:=dT h2;refine Aa (Xc ..) rfl (Ax rfl (λhn=>Ap (bF ?_)) (λhn=>Aa (ZR f) rfl (Aa (Am ..) rfl (Ap (bE ?_)))));have:=XU hn;omega;omega
def qj (i:Int):i=IntKind.i64.wrap (IntKind.i16.wrap i)↔(-32768<=i/\i<=32767):=by simp [IntKind.wrap,IntKind.bits,IntKind.signed];omega
def r9 (i:Int):i=IntKind.i64.wrap (IntKind.i32.wrap i)↔(-2147483648<=i/\i<=2147483647):=by simp [IntKind.wrap,IntKind.bits,IntKind.signed];omega
def Is_ (k i:Int) (f:Nat):AJ 105 [.agg [.int .i64 k,.int .i64 i,.flt .f64 f]] (.bool (decide (EK k i f))):=by refine Bx [some 3] [.int .i64 k,.int .i64 i,.flt .f64 f] qH gZ rfl rfl rfl rfl rfl (by kernel_rfl) λY hf hg=>?_;unfold gZ;refine Aa (Am ..) rfl (Ax rfl (λh5=>Aa (Am ..) rfl (Ap (bE ?_))) (λh5=>?_));have:=dT h5;unfold EK;omega;have h5:=dF h5;refine Aa (Xc ..) rfl (Ax rfl (λhn=>Ap (bF ?_)) (λhn=>Aa (ZR f) rfl (Aa (Al ..) rfl (Ax rfl (λh0=>Ap (bF ?_)) (λh0=>?_)))));have:=XU hn;unfold EK;omega;have h0:(!decide ((f:Int)=0))=true:=h0;simp only [Bool.not_eq_true',AY]at h0;unfold EK;omega;have h0:(!decide ((f:Int)=0))=false:=h0;simp only [Bool.not_eq_false',AH]at h0;refine Aa (Am ..) rfl (Ax rfl (λh1=>?_) (λh1=>?_));have h1:=dT h1;refine Aa (Am ..) rfl (Ax rfl (λhi=>Ap (bT ?_)) (λhi=>Aa (Am ..) rfl (Ap (bE ?_))));have:=dT hi;unfold EK;omega;have:=dF hi;unfold EK;omega;have h1:=dF h1;refine Aa (Am ..) rfl (Ax rfl (λh2=>?_) (λh2=>?_));have h2:=dT h2;refine Aa (Hb Tryz.underlying2 Tryz.underlying219 _) rfl (Aa (Hb Tryz.underlying219 Tryz.underlying2 _) rfl (Aa (Am ..) rfl (Ap (bE ((qj i).trans ?_)))));unfold EK;omega;have h2:=dF h2;refine Aa (Am ..) rfl (Ax rfl (λh3=>?_) (λh3=>?_));have h3:=dT h3;refine Aa (Hb Tryz.underlying2 Tryz.underlying21 _) rfl (Aa (Hb Tryz.underlying21 Tryz.underlying2 _) rfl (Aa (Am ..) rfl (Ap (bE ((r9 i).trans ?_)))));unfold EK;omega;have h3:=dF h3;refine Aa (Am ..) rfl (Ap (bE ?_));unfold EK;omega
section
variable {op kd ad n vk vi:Int} {vf:Nat}
def iZ (h:op=1):D6 op kd ad n vk vi vf↔(ad=0/\n=0/\kd=vk/\EK vk vi vf):=by unfold D6;exact ⟨λq=>q.elim (λq=>q.2) (λq=>absurd h q.1),λq=>.inl ⟨h,q⟩⟩
def KU (h:op≠1):D6 op kd ad n vk vi vf↔(vk=0/\vi=0/\vf=0/\
 (((op=2\/op=18)/\kd=0/\n=0/\0<=ad/\ad<=63)\/((op=3\/op=19)/\kd=0/\0<=ad/\ad<=63/\1<=n/\n<=8)\/((op=20\/op=21)/\kd=0/\n=0/\0<=ad/\ad<=399)\/
  (op=22/\6<=kd/\kd<=12/\0<=ad/\ad<=63/\n=(if kd=11\/kd=12 then 1 else 2))\/(op=23/\kd=0/\ad=0/\n=0)\/(op=17/\ad=0/\2<=kd/\kd<=5/\2<=n/\n<=5)\/
  (4<=op/\op<=16/\ad=0/\n=0/\IQ op<=kd/\kd<=IY op))):=by
 unfold D6;exact ⟨λq=>q.elim (λq=>absurd q.1 h) (λq=>q.2),λq=>.inr ⟨h,q⟩⟩
def eL (h:op=2\/op=18):D6 op kd ad n vk vi vf↔(vk=0/\vi=0/\vf=0/\kd=0/\n=0/\0<=ad/\ad<=63):=by refine (KU (by omega)).trans ⟨λq=>?_,λq=>⟨q.1,q.2.1,q.2.2.1,.inl ⟨h,q.2.2.2⟩⟩⟩;obtain ⟨a,b,c,d⟩:=q;refine ⟨a,b,c,?_⟩;rcases d with d|d|d|d|d|d|d<;>omega
def cD (h:op=3\/op=19):D6 op kd ad n vk vi vf↔(vk=0/\vi=0/\vf=0/\kd=0/\0<=ad/\ad<=63/\1<=n/\n<=8):=by refine (KU (by omega)).trans ⟨λq=>?_,λq=>⟨q.1,q.2.1,q.2.2.1,.inr (.inl ⟨h,q.2.2.2⟩)⟩⟩;obtain ⟨a,b,c,d⟩:=q;refine ⟨a,b,c,?_⟩;rcases d with d|d|d|d|d|d|d<;>omega
def jW (h:op=20\/op=21):D6 op kd ad n vk vi vf↔(vk=0/\vi=0/\vf=0/\kd=0/\n=0/\0<=ad/\ad<=399):=by refine (KU (by omega)).trans ⟨λq=>?_,λq=>⟨q.1,q.2.1,q.2.2.1,.inr (.inr (.inl ⟨h,q.2.2.2⟩))⟩⟩;obtain ⟨a,b,c,d⟩:=q;refine ⟨a,b,c,?_⟩;rcases d with d|d|d|d|d|d|d<;>omega
def fe (h:op=22):D6 op kd ad n vk vi vf↔(vk=0/\vi=0/\vf=0/\6<=kd/\kd<=12/\0<=ad/\ad<=63/\n=(if kd=11\/kd=12 then 1 else 2)):=by refine (KU (by omega)).trans ⟨λq=>?_,λq=>⟨q.1,q.2.1,q.2.2.1,.inr (.inr (.inr (.inl ⟨h,q.2.2.2⟩)))⟩⟩;obtain ⟨a,b,c,d⟩:=q;refine ⟨a,b,c,?_⟩;rcases d with d|d|d|d|d|d|d;omega;omega;omega;exact d.2;omega;omega;omega
def d8 (h:op=23):D6 op kd ad n vk vi vf↔(vk=0/\vi=0/\vf=0/\kd=0/\ad=0/\n=0):=by refine (KU (by omega)).trans ⟨λq=>?_,λq=>⟨q.1,q.2.1,q.2.2.1,.inr (.inr (.inr (.inr (.inl ⟨h,q.2.2.2⟩))))⟩⟩;obtain ⟨a,b,c,d⟩:=q;refine ⟨a,b,c,?_⟩;rcases d with d|d|d|d|d|d|d<;>omega
def kN (h:op=17):D6 op kd ad n vk vi vf↔(vk=0/\vi=0/\vf=0/\ad=0/\2<=kd/\kd<=5/\2<=n/\n<=5):=by refine (KU (by omega)).trans ⟨λq=>?_,λq=>⟨q.1,q.2.1,q.2.2.1,.inr (.inr (.inr (.inr (.inr (.inl ⟨h,q.2.2.2⟩)))))⟩⟩;obtain ⟨a,b,c,d⟩:=q;refine ⟨a,b,c,?_⟩;rcases d with d|d|d|d|d|d|d<;>omega
def KE (lo hi:Int) (h:4<=op/\op<=16) (hl:IQ op=lo) (hh:IY op=hi):D6 op kd ad n vk vi vf↔(vk=0/\vi=0/\vf=0/\ad=0/\n=0/\lo<=kd/\kd<=hi):=by subst hl hh;refine (KU (by omega)).trans ⟨λq=>?_,λq=>⟨q.1,q.2.1,q.2.2.1,.inr (.inr (.inr (.inr (.inr (.inr ⟨h.1,h.2,q.2.2.2⟩)))))⟩⟩;obtain ⟨a,b,c,d⟩:=q;refine ⟨a,b,c,?_⟩;rcases d with d|d|d|d|d|d|d<;>omega
def o9 (h:op<1\/23<op):D6 op kd ad n vk vi vf↔False:=by refine (KU (by omega)).trans ⟨λq=>?_,λq=>q.elim⟩;obtain ⟨a,b,c,d⟩:=q;rcases d with d|d|d|d|d|d|d<;>omega
def Af (op:Int):op=1\/(op=2\/op=18)\/(op=3\/op=19)\/(op=20\/op=21)\/op=22\/op=23\/op=17\/(op=9\/op=10)\/(op=13\/op=14\/op=15)\/op=8\/(op=4\/op=5\/op=6\/op=7\/op=11\/op=12\/op=16)\/(op<1\/23<op):=by omega
end
def Vt {op:Int} (h:op=9\/op=10):IQ op=1/\IY op=5:=by rcases h with rfl|rfl<;>exact ⟨rfl,rfl⟩
def U6 {op:Int} (h:op=13\/op=14\/op=15):IQ op=1/\IY op=1:=by rcases h with rfl|rfl|rfl<;>exact ⟨rfl,rfl⟩
def TQ {op:Int} (h:op=8):IQ op=2/\IY op=4:=by subst h;exact ⟨rfl,rfl⟩
def S6 {op:Int} (h:op=4\/op=5\/op=6\/op=7\/op=11\/op=12\/op=16):IQ op=2/\IY op=5:=by rcases h with rfl|rfl|rfl|rfl|rfl|rfl|rfl<;>exact ⟨rfl,rfl⟩
set_option maxHeartbeats 4000000 in
def yN (g:GI):AJ 63 [.agg (k_ g)] (.bool (decide (D6 g.op g.kd g.ad g.n g.vk g.vi g.vf))):=by
 obtain ⟨op,kd,ad,n,vk,vi,vf⟩:=g;refine Bx [some 7] (k_ ⟨op,kd,ad,n,vk,vi,vf⟩) u5 ct rfl (BM _) rfl rfl rfl (by kernel_rfl) λY hf hg=>?_;show AC _ (· =AV.bool (decide (D6 op kd ad n vk vi vf))) _ _ _;have hc:=xG ⟨op,kd,ad,n,vk,vi,vf⟩;have hd:=Iv_ ⟨op,kd,ad,n,vk,vi,vf⟩;simp only at hc hd;have hz0:(!decide (vk=0/\vi=0/\vf=0))=true->(vk=0/\vi=0/\vf=0)->False:=λh q=>by rw [AD q]at h;cases h
 have hz1:(!decide (vk=0/\vi=0/\vf=0))=false->(vk=0/\vi=0/\vf=0):=λh=>by simpa using h
 unfold ct;rcases Af op with h|h|h|h|h|h|h|h|h|h|h|h
 .rw [decide_eq_decide.2 (iZ h)];refine g_ rfl rfl (λh1=>?_) (λh1=>absurd h h1);repeat' (refine g_ rfl rfl ?_ ?_<;>intro h<;>simp only [nc]at h<;>try omega)
  refine Aq (Is_ vk vi vf) rfl rfl (Ap ?_);exact bE ⟨λh=>⟨by omega,by omega,by omega,h⟩,λh=>h.2.2.2⟩;all_goals exact Ap (bF λq=>by omega)
 all_goals
  first|rw [decide_eq_decide.2 (eL h)]|rw [decide_eq_decide.2 (cD h)]|rw [decide_eq_decide.2 (jW h)]|rw [decide_eq_decide.2 (fe h)]|rw [decide_eq_decide.2 (d8 h)]|rw [decide_eq_decide.2 (kN h)]|(have e1:=(Vt h).1;have e2:=(Vt h).2;rw [decide_eq_decide.2 (KE 1 5 (by omega) e1 e2)])|(have e1:=(U6 h).1;have e2:=(U6 h).2;rw [decide_eq_decide.2 (KE 1 1 (by omega) e1 e2)])|(have e1:=(TQ h).1;have e2:=(TQ h).2;rw [decide_eq_decide.2 (KE 2 4 (by omega) e1 e2)])|(have e1:=(S6 h).1;have e2:=(S6 h).2;rw [decide_eq_decide.2 (KE 2 5 (by omega) e1 e2)])|rw [decide_eq_decide.2 (o9 h)]
  (
   refine g_ rfl rfl (λq1=>?_) (λq1=>?_)<;>simp only [nc]at q1
   exfalso;omega;refine Aq (uF vk vi vf) rfl rfl (Aa (ET ..) rfl (Ax rfl (λhz=>Ap (bF λq=>hz0 hz (by first|omega|exact q.elim))) (λhz=>?_)));obtain ⟨z1,z2,z3⟩:=hz1 hz;repeat' first
    |(refine g_ rfl rfl ?_ ?_<;>intro h<;>simp only [nc]at h<;>try omega)
    |(refine Aq hc rfl rfl (Ax rfl ?_ ?_)<;>intro h<;>(first|replace h:=dT h|replace h:=dF h))
    |(refine Aq (GO kd 6 12) rfl rfl (Ax rfl ?_ ?_)<;>intro h<;>(first|replace h:=dT h|replace h:=dF h))
    |(refine Aq (GO kd 2 5) rfl rfl (Ax rfl ?_ ?_)<;>intro h<;>(first|replace h:=dT h|replace h:=dF h))
    |(refine Aq (GO op 4 16) rfl rfl (Ax rfl ?_ ?_)<;>intro h<;>(first|replace h:=dT h|replace h:=dF h))
    |(refine Ap (bF ?_);omega)
    |exact Ap (bF id)
    |(refine Aa (Am ..) rfl (Ap (bE ?_));omega)
    |(refine Aa (Am ..) rfl (Ap (bE ?_));dsimp only;omega)
    |(refine Aa (Am ..) rfl (Ap (bE ?_));dsimp only;exact ⟨λq=>⟨z1,z2,z3,by omega,by omega,by omega,by omega,q⟩,λq=>q.2.2.2.2.2.2.2⟩)
    |(refine Aq hc rfl rfl (Ap (bE ?_));omega)
    |(refine Aq hd rfl rfl (Ap (bE ?_));omega)
    |(refine Aq (GO n 1 8) rfl rfl (Ap (bE ?_));omega)
    |(refine Aq (GO n 2 5) rfl rfl (Ap (bE ?_));omega)
    |(refine Aq (GO kd 1 5) rfl rfl (Ap (bE ?_));omega)
    |(refine Aq (GO kd 1 1) rfl rfl (Ap (bE ?_));omega)
    |(refine Aq (GO kd 2 4) rfl rfl (Ap (bE ?_));omega)
    |(refine Aq (GO kd 2 5) rfl rfl (Ap (bE ?_));omega)
    |(refine Aq (GO kd (IQ op) (IY op)) rfl rfl (Ap (bE ?_));omega)
    |refine Aq (yz kd) rfl rfl ?_
    |refine Aq (Ix_ op) rfl rfl ?_)
def IK (k:Int):Int:=if 1<=k/\k<=5 then 1 else if 6<=k/\k<=8 then 4 else if k=9\/k=10 then 3 else if k=11\/k=12 then 2 else 0
def j8 (k:Int):AJ 74 [.int .i64 k] (.int .i64 (IK k)):=by
 refine Bx [none] [.int .i64 k] p7 dD rfl rfl rfl rfl rfl (by kernel_rfl) λY hf hg=>?_;unfold dD;repeat' (refine g_ rfl rfl ?_ ?_<;>intro h<;>simp only [nc]at h<;>try omega)
 all_goals exact Ap (iK (by unfold IK;(repeat' split)<;>omega))
def vU {k i:Int} (h:1<=k/\k<=4):F_ k i=i↔((k=1/\(i=0\/i=1))\/(k=2/\ -32768<=i/\i<=32767)\/(k=3/\ -2147483648<=i/\i<=2147483647)\/k=4):=by
 have a:=Yn i;have b:=aG i;have e1:(-32768<=i/\i<=32767)->IntKind.i16.wrap i=i:=λh=>by simp [IntKind.wrap,IntKind.bits,IntKind.signed];omega
 have e2:(-2147483648<=i/\i<=2147483647)->IntKind.i32.wrap i=i:=λh=>by simp [IntKind.wrap,IntKind.bits,IntKind.signed];omega
 unfold F_;rcases (by omega:k=1\/k=2\/k=3\/k=4)with rfl|rfl|rfl|rfl
 .rw [Ad rfl];split<;>omega
 rw [Ab (by decide),Ad rfl];exact ⟨λh=>.inr (.inl ⟨rfl,by omega⟩),λh=>e1 (by omega)⟩;rw [Ab (by decide),Ab (by decide),Ad rfl];exact ⟨λh=>.inr (.inr (.inl ⟨rfl,by omega⟩)),λh=>e2 (by omega)⟩;rw [Ab (by decide),Ab (by decide),Ab (by decide),Ad rfl];exact ⟨λh=>.inr (.inr (.inr rfl)),λh=>rfl⟩
def uv (k i:Int) (f:Nat):AJ 118 [.agg [.int .i64 k,.int .i64 i,.flt .f64 f]] (.bool (decide (EK k i f))):=by
 refine Bx [some 3] [.int .i64 k,.int .i64 i,.flt .f64 f] Hp_ di rfl rfl rfl rfl rfl (by kernel_rfl) λY hf hg=>?_;unfold di;refine Aa (Am ..) rfl (Ax rfl (λh5=>Aa (Am ..) rfl (Ap (bE ?_))) (λh5=>?_));have:=dT h5;unfold EK;omega;have h5:=dF h5;refine Aq (j8 k) rfl rfl (Aa (Am ..) rfl (Ax rfl (λhw=>?_) (λhw=>Ap (bF ?_))))
 .have hw:=dT hw;have hk:1<=k/\k<=4:=by
   unfold IK at hw;revert hw
   (repeat' split)<;>omega
  refine Aq (Tj f) rfl rfl (Aa (Am ..) rfl (Ax rfl (λhb=>?_) (λhb=>Ap (bF ?_))));have hb:=(Y6 f).1 (dT hb);refine Aq (LW (by omega) i) rfl rfl (Aa (Am ..) rfl (Ap (bE ((vU hk).trans ?_))));unfold EK;omega;have hb:¬f=0:=λe=>dF hb ((Y6 f).2 e);unfold EK;omega
 have hw:=dF hw;have hk:¬(1<=k/\k<=4):=λh=>hw (by unfold IK;rw [Ad (by omega)]);unfold EK;omega
def c77:VC:=⟨⟨[],[]⟩,[(119,[none]),(118,[none]),(120,[none])],[],0,true,[]⟩
def YN:VT:=It Q1 [64,J 1] 71 (It Q1 [68,J 0] 72 Ψ<|It Qc [69,J 0] 73 Ψ<|.call 119 [70] 74 [none]<|It Uj [74,.int .u64 0] 75 Ψ<|It Q4 [66,J 0] 76 (Li Qa [66,J 64] 77<|Iq 65 0 78 (Li Q0 [67,J 0] 79<|Iq 64 1 80 (.call 118 [.agg [68,69,70]] 81 [none]<|.ite 81 (It Q9 [65,68] 82 (Iq 66 0 83 (Li Q0 [67,J 0] 84<|.done (84))<|Ψ)<|Ψ)<|Ψ)<|Iq 64 2 81 (.ite 77 (.done (79))<|Ψ)<|Iq 64 18 82 (.ite 77 (.done (79))<|Ψ)<|Iq 64 3 83 (.ite 77 (Iq 65 0 84 (It Q4 [67,J 1] 85 (Li Q8 [67,J 8] 86<|.done (86))<|Ψ)<|Ψ)<|Ψ)<|Iq 64 19 84 (.ite 77 (Iq 65 0 85 (It Q4 [67,J 1] 86 (Li Q8 [67,J 8] 87<|.done (87))<|Ψ)<|Ψ)<|Ψ)<|Iq 64 20 85 (It Q4 [66,J 0] 86 (It Qa [66,J 400] 87 (.done (79))<|Ψ)<|Ψ)<|Iq 64 21 86 (It Q4 [66,J 0] 87 (It Qa [66,J 400] 88 (.done (79))<|Ψ)<|Ψ)<|Iq 64 22 87 (It Q4 [65,J 11] 88 (.ite 77 (It Q4 [65,J 6] 89 (It Q8 [65,J 12] 90 (Li Q9 [67,J 1] 91<|.done (91))<|Ψ)<|Ψ)<|Ψ)<|.ite 77 (It Q4 [65,J 6] 89 (It Q8 [65,J 12] 90 (Li Q9 [67,J 2] 91<|.done (91))<|Ψ)<|Ψ)<|Ψ)<|Iq 64 23 88 (.ite 79 (Li Q0 [66,J 0] 89<|.done (89))<|Ψ)<|Iq 64 17 89 (Iq 66 0 90 (It Q4 [65,J 2] 91 (It Q8 [65,J 5] 92 (It Q4 [67,J 2] 93 (Li Q8 [67,J 5] 94<|.done (94))<|Ψ)<|Ψ)<|Ψ)<|Ψ)<|It Q1 [66,J 0] 90 Ψ<|It Q1 [67,J 0] 91 Ψ<|It Qa [65,J 1] 92 Ψ<|It Qb [65,J 5] 93 Ψ<|Iq 64 4 94 (Li Q1 [65,J 1] 95<|.done (95))<|Iq 64 5 95 (Li Q1 [65,J 1] 96<|.done (96))<|Iq 64 6 96 (Li Q1 [65,J 1] 97<|.done (97))<|Iq 64 7 97 (Li Q1 [65,J 1] 98<|.done (98))<|Iq 64 16 98 (Li Q1 [65,J 1] 99<|.done (99))<|Iq 64 11 99 (Li Q1 [65,J 1] 100<|.done (100))<|Iq 64 12 100 (Li Q1 [65,J 1] 101<|.done (101))<|Iq 64 8 101 (.call 120 [65] 102 [none]<|.done (102))<|Iq 64 9 102 Ω<|Iq 64 10 103 Ω<|Iq 64 13 104 (Li Q0 [65,J 1] 105<|.done (105))<|Iq 64 14 105 (Li Q0 [65,J 1] 106<|.done (106))<|Iq 64 15 106 (Li Q0 [65,J 1] 107<|.done (107))<|Ψ)<|Iq 64 1 79 (.call 118 [.agg [68,69,70]] 80 [none]<|.ite 80 (It Q9 [65,68] 81 (Iq 66 0 82 (Li Q0 [67,J 0] 83<|.done (83))<|Ψ)<|Ψ)<|Ψ)<|Iq 64 2 80 (.ite 77 Ψ<|Ψ)<|Iq 64 18 81 (.ite 77 Ψ<|Ψ)<|Iq 64 3 82 (.ite 77 (Iq 65 0 83 (It Q4 [67,J 1] 84 (Li Q8 [67,J 8] 85<|.done (85))<|Ψ)<|Ψ)<|Ψ)<|Iq 64 19 83 (.ite 77 (Iq 65 0 84 (It Q4 [67,J 1] 85 (Li Q8 [67,J 8] 86<|.done (86))<|Ψ)<|Ψ)<|Ψ)<|Iq 64 20 84 (It Q4 [66,J 0] 85 (It Qa [66,J 400] 86 Ψ<|Ψ)<|Ψ)<|Iq 64 21 85 (It Q4 [66,J 0] 86 (It Qa [66,J 400] 87 Ψ<|Ψ)<|Ψ)<|Iq 64 22 86 (It Q4 [65,J 11] 87 (.ite 77 (It Q4 [65,J 6] 88 (It Q8 [65,J 12] 89 (Li Q9 [67,J 1] 90<|.done (90))<|Ψ)<|Ψ)<|Ψ)<|.ite 77 (It Q4 [65,J 6] 88 (It Q8 [65,J 12] 89 (Li Q9 [67,J 2] 90<|.done (90))<|Ψ)<|Ψ)<|Ψ)<|Iq 64 23 87 Ψ<|Iq 64 17 88 (Iq 66 0 89 (It Q4 [65,J 2] 90 (It Q8 [65,J 5] 91 (It Q4 [67,J 2] 92 (Li Q8 [67,J 5] 93<|.done (93))<|Ψ)<|Ψ)<|Ψ)<|Ψ)<|It Q1 [66,J 0] 89 Ψ<|It Q1 [67,J 0] 90 Ψ<|It Qa [65,J 1] 91 Ψ<|It Qb [65,J 5] 92 Ψ<|Iq 64 4 93 (Li Q1 [65,J 1] 94<|.done (94))<|Iq 64 5 94 (Li Q1 [65,J 1] 95<|.done (95))<|Iq 64 6 95 (Li Q1 [65,J 1] 96<|.done (96))<|Iq 64 7 96 (Li Q1 [65,J 1] 97<|.done (97))<|Iq 64 16 97 (Li Q1 [65,J 1] 98<|.done (98))<|Iq 64 11 98 (Li Q1 [65,J 1] 99<|.done (99))<|Iq 64 12 99 (Li Q1 [65,J 1] 100<|.done (100))<|Iq 64 8 100 (.call 120 [65] 101 [none]<|.done (101))<|Iq 64 9 101 Ω<|Iq 64 10 102 Ω<|Iq 64 13 103 (Li Q0 [65,J 1] 104<|.done (104))<|Iq 64 14 104 (Li Q0 [65,J 1] 105<|.done (105))<|Iq 64 15 105 (Li Q0 [65,J 1] 106<|.done (106))<|Ψ)<|Iq 65 0 77 (Li Q0 [67,J 0] 78<|Iq 64 1 79 (.call 118 [.agg [68,69,70]] 80 [none]<|.ite 80 (It Q9 [65,68] 81 (Iq 66 0 82 (Li Q0 [67,J 0] 83<|.done (83))<|Ψ)<|Ψ)<|Ψ)<|Iq 64 2 80 Ψ<|Iq 64 18 81 Ψ<|Iq 64 3 82 Ψ<|Iq 64 19 83 Ψ<|Iq 64 20 84 (It Q4 [66,J 0] 85 (It Qa [66,J 400] 86 (.done (78))<|Ψ)<|Ψ)<|Iq 64 21 85 (It Q4 [66,J 0] 86 (It Qa [66,J 400] 87 (.done (78))<|Ψ)<|Ψ)<|Iq 64 22 86 (It Q4 [65,J 11] 87 Ψ<|Ψ)<|Iq 64 23 87 (.ite 78 (Li Q0 [66,J 0] 88<|.done (88))<|Ψ)<|Iq 64 17 88 (Iq 66 0 89 (It Q4 [65,J 2] 90 (It Q8 [65,J 5] 91 (It Q4 [67,J 2] 92 (Li Q8 [67,J 5] 93<|.done (93))<|Ψ)<|Ψ)<|Ψ)<|Ψ)<|It Q1 [66,J 0] 89 Ψ<|It Q1 [67,J 0] 90 Ψ<|It Qa [65,J 1] 91 Ψ<|It Qb [65,J 5] 92 Ψ<|Iq 64 4 93 (Li Q1 [65,J 1] 94<|.done (94))<|Iq 64 5 94 (Li Q1 [65,J 1] 95<|.done (95))<|Iq 64 6 95 (Li Q1 [65,J 1] 96<|.done (96))<|Iq 64 7 96 (Li Q1 [65,J 1] 97<|.done (97))<|Iq 64 16 97 (Li Q1 [65,J 1] 98<|.done (98))<|Iq 64 11 98 (Li Q1 [65,J 1] 99<|.done (99))<|Iq 64 12 99 (Li Q1 [65,J 1] 100<|.done (100))<|Iq 64 8 100 (.call 120 [65] 101 [none]<|.done (101))<|Iq 64 9 101 Ω<|Iq 64 10 102 Ω<|Iq 64 13 103 (Li Q0 [65,J 1] 104<|.done (104))<|Iq 64 14 104 (Li Q0 [65,J 1] 105<|.done (105))<|Iq 64 15 105 (Li Q0 [65,J 1] 106<|.done (106))<|Ψ)<|Iq 64 1 78 (.call 118 [.agg [68,69,70]] 79 [none]<|.ite 79 (It Q9 [65,68] 80 (Iq 66 0 81 (Li Q0 [67,J 0] 82<|.done (82))<|Ψ)<|Ψ)<|Ψ)<|Iq 64 2 79 Ψ<|Iq 64 18 80 Ψ<|Iq 64 3 81 Ψ<|Iq 64 19 82 Ψ<|Iq 64 20 83 (It Q4 [66,J 0] 84 (It Qa [66,J 400] 85 Ψ<|Ψ)<|Ψ)<|Iq 64 21 84 (It Q4 [66,J 0] 85 (It Qa [66,J 400] 86 Ψ<|Ψ)<|Ψ)<|Iq 64 22 85 (It Q4 [65,J 11] 86 Ψ<|Ψ)<|Iq 64 23 86 Ψ<|Iq 64 17 87 (Iq 66 0 88 (It Q4 [65,J 2] 89 (It Q8 [65,J 5] 90 (It Q4 [67,J 2] 91 (Li Q8 [67,J 5] 92<|.done (92))<|Ψ)<|Ψ)<|Ψ)<|Ψ)<|It Q1 [66,J 0] 88 Ψ<|It Q1 [67,J 0] 89 Ψ<|It Qa [65,J 1] 90 Ψ<|It Qb [65,J 5] 91 Ψ<|Iq 64 4 92 (Li Q1 [65,J 1] 93<|.done (93))<|Iq 64 5 93 (Li Q1 [65,J 1] 94<|.done (94))<|Iq 64 6 94 (Li Q1 [65,J 1] 95<|.done (95))<|Iq 64 7 95 (Li Q1 [65,J 1] 96<|.done (96))<|Iq 64 16 96 (Li Q1 [65,J 1] 97<|.done (97))<|Iq 64 11 97 (Li Q1 [65,J 1] 98<|.done (98))<|Iq 64 12 98 (Li Q1 [65,J 1] 99<|.done (99))<|Iq 64 8 99 (.call 120 [65] 100 [none]<|.done (100))<|Iq 64 9 100 Ω<|Iq 64 10 101 Ω<|Iq 64 13 102 (Li Q0 [65,J 1] 103<|.done (103))<|Iq 64 14 103 (Li Q0 [65,J 1] 104<|.done (104))<|Iq 64 15 104 (Li Q0 [65,J 1] 105<|.done (105))<|Ψ)<|It Q4 [66,J 0] 72 (Li Qa [66,J 64] 73<|Iq 65 0 74 (Li Q0 [67,J 0] 75<|Iq 64 1 76 (.call 118 [.agg [68,69,70]] 77 [none]<|.ite 77 (It Q9 [65,68] 78 (Iq 66 0 79 (Li Q0 [67,J 0] 80<|.done (80))<|Ψ)<|Ψ)<|Ψ)<|Iq 64 2 77 (.ite 73 (.done (75))<|Ψ)<|Iq 64 18 78 (.ite 73 (.done (75))<|Ψ)<|Iq 64 3 79 (.ite 73 (Iq 65 0 80 (It Q4 [67,J 1] 81 (Li Q8 [67,J 8] 82<|.done (82))<|Ψ)<|Ψ)<|Ψ)<|Iq 64 19 80 (.ite 73 (Iq 65 0 81 (It Q4 [67,J 1] 82 (Li Q8 [67,J 8] 83<|.done (83))<|Ψ)<|Ψ)<|Ψ)<|Iq 64 20 81 (It Q4 [66,J 0] 82 (It Qa [66,J 400] 83 (.done (75))<|Ψ)<|Ψ)<|Iq 64 21 82 (It Q4 [66,J 0] 83 (It Qa [66,J 400] 84 (.done (75))<|Ψ)<|Ψ)<|Iq 64 22 83 (It Q4 [65,J 11] 84 (.ite 73 (It Q4 [65,J 6] 85 (It Q8 [65,J 12] 86 (Li Q9 [67,J 1] 87<|.done (87))<|Ψ)<|Ψ)<|Ψ)<|.ite 73 (It Q4 [65,J 6] 85 (It Q8 [65,J 12] 86 (Li Q9 [67,J 2] 87<|.done (87))<|Ψ)<|Ψ)<|Ψ)<|Iq 64 23 84 (.ite 75 (Li Q0 [66,J 0] 85<|.done (85))<|Ψ)<|Iq 64 17 85 (Iq 66 0 86 (It Q4 [65,J 2] 87 (It Q8 [65,J 5] 88 (It Q4 [67,J 2] 89 (Li Q8 [67,J 5] 90<|.done (90))<|Ψ)<|Ψ)<|Ψ)<|Ψ)<|It Q1 [66,J 0] 86 Ψ<|It Q1 [67,J 0] 87 Ψ<|It Qa [65,J 1] 88 Ψ<|It Qb [65,J 5] 89 Ψ<|Iq 64 4 90 (Li Q1 [65,J 1] 91<|.done (91))<|Iq 64 5 91 (Li Q1 [65,J 1] 92<|.done (92))<|Iq 64 6 92 (Li Q1 [65,J 1] 93<|.done (93))<|Iq 64 7 93 (Li Q1 [65,J 1] 94<|.done (94))<|Iq 64 16 94 (Li Q1 [65,J 1] 95<|.done (95))<|Iq 64 11 95 (Li Q1 [65,J 1] 96<|.done (96))<|Iq 64 12 96 (Li Q1 [65,J 1] 97<|.done (97))<|Iq 64 8 97 (.call 120 [65] 98 [none]<|.done (98))<|Iq 64 9 98 Ω<|Iq 64 10 99 Ω<|Iq 64 13 100 (Li Q0 [65,J 1] 101<|.done (101))<|Iq 64 14 101 (Li Q0 [65,J 1] 102<|.done (102))<|Iq 64 15 102 (Li Q0 [65,J 1] 103<|.done (103))<|Ψ)<|Iq 64 1 75 (.call 118 [.agg [68,69,70]] 76 [none]<|.ite 76 (It Q9 [65,68] 77 (Iq 66 0 78 (Li Q0 [67,J 0] 79<|.done (79))<|Ψ)<|Ψ)<|Ψ)<|Iq 64 2 76 (.ite 73 Ψ<|Ψ)<|Iq 64 18 77 (.ite 73 Ψ<|Ψ)<|Iq 64 3 78 (.ite 73 (Iq 65 0 79 (It Q4 [67,J 1] 80 (Li Q8 [67,J 8] 81<|.done (81))<|Ψ)<|Ψ)<|Ψ)<|Iq 64 19 79 (.ite 73 (Iq 65 0 80 (It Q4 [67,J 1] 81 (Li Q8 [67,J 8] 82<|.done (82))<|Ψ)<|Ψ)<|Ψ)<|Iq 64 20 80 (It Q4 [66,J 0] 81 (It Qa [66,J 400] 82 Ψ<|Ψ)<|Ψ)<|Iq 64 21 81 (It Q4 [66,J 0] 82 (It Qa [66,J 400] 83 Ψ<|Ψ)<|Ψ)<|Iq 64 22 82 (It Q4 [65,J 11] 83 (.ite 73 (It Q4 [65,J 6] 84 (It Q8 [65,J 12] 85 (Li Q9 [67,J 1] 86<|.done (86))<|Ψ)<|Ψ)<|Ψ)<|.ite 73 (It Q4 [65,J 6] 84 (It Q8 [65,J 12] 85 (Li Q9 [67,J 2] 86<|.done (86))<|Ψ)<|Ψ)<|Ψ)<|Iq 64 23 83 Ψ<|Iq 64 17 84 (Iq 66 0 85 (It Q4 [65,J 2] 86 (It Q8 [65,J 5] 87 (It Q4 [67,J 2] 88 (Li Q8 [67,J 5] 89<|.done (89))<|Ψ)<|Ψ)<|Ψ)<|Ψ)<|It Q1 [66,J 0] 85 Ψ<|It Q1 [67,J 0] 86 Ψ<|It Qa [65,J 1] 87 Ψ<|It Qb [65,J 5] 88 Ψ<|Iq 64 4 89 (Li Q1 [65,J 1] 90<|.done (90))<|Iq 64 5 90 (Li Q1 [65,J 1] 91<|.done (91))<|Iq 64 6 91 (Li Q1 [65,J 1] 92<|.done (92))<|Iq 64 7 92 (Li Q1 [65,J 1] 93<|.done (93))<|Iq 64 16 93 (Li Q1 [65,J 1] 94<|.done (94))<|Iq 64 11 94 (Li Q1 [65,J 1] 95<|.done (95))<|Iq 64 12 95 (Li Q1 [65,J 1] 96<|.done (96))<|Iq 64 8 96 (.call 120 [65] 97 [none]<|.done (97))<|Iq 64 9 97 Ω<|Iq 64 10 98 Ω<|Iq 64 13 99 (Li Q0 [65,J 1] 100<|.done (100))<|Iq 64 14 100 (Li Q0 [65,J 1] 101<|.done (101))<|Iq 64 15 101 (Li Q0 [65,J 1] 102<|.done (102))<|Ψ)<|Iq 65 0 73 (Li Q0 [67,J 0] 74<|Iq 64 1 75 (.call 118 [.agg [68,69,70]] 76 [none]<|.ite 76 (It Q9 [65,68] 77 (Iq 66 0 78 (Li Q0 [67,J 0] 79<|.done (79))<|Ψ)<|Ψ)<|Ψ)<|Iq 64 2 76 Ψ<|Iq 64 18 77 Ψ<|Iq 64 3 78 Ψ<|Iq 64 19 79 Ψ<|Iq 64 20 80 (It Q4 [66,J 0] 81 (It Qa [66,J 400] 82 (.done (74))<|Ψ)<|Ψ)<|Iq 64 21 81 (It Q4 [66,J 0] 82 (It Qa [66,J 400] 83 (.done (74))<|Ψ)<|Ψ)<|Iq 64 22 82 (It Q4 [65,J 11] 83 Ψ<|Ψ)<|Iq 64 23 83 (.ite 74 (Li Q0 [66,J 0] 84<|.done (84))<|Ψ)<|Iq 64 17 84 (Iq 66 0 85 (It Q4 [65,J 2] 86 (It Q8 [65,J 5] 87 (It Q4 [67,J 2] 88 (Li Q8 [67,J 5] 89<|.done (89))<|Ψ)<|Ψ)<|Ψ)<|Ψ)<|It Q1 [66,J 0] 85 Ψ<|It Q1 [67,J 0] 86 Ψ<|It Qa [65,J 1] 87 Ψ<|It Qb [65,J 5] 88 Ψ<|Iq 64 4 89 (Li Q1 [65,J 1] 90<|.done (90))<|Iq 64 5 90 (Li Q1 [65,J 1] 91<|.done (91))<|Iq 64 6 91 (Li Q1 [65,J 1] 92<|.done (92))<|Iq 64 7 92 (Li Q1 [65,J 1] 93<|.done (93))<|Iq 64 16 93 (Li Q1 [65,J 1] 94<|.done (94))<|Iq 64 11 94 (Li Q1 [65,J 1] 95<|.done (95))<|Iq 64 12 95 (Li Q1 [65,J 1] 96<|.done (96))<|Iq 64 8 96 (.call 120 [65] 97 [none]<|.done (97))<|Iq 64 9 97 Ω<|Iq 64 10 98 Ω<|Iq 64 13 99 (Li Q0 [65,J 1] 100<|.done (100))<|Iq 64 14 100 (Li Q0 [65,J 1] 101<|.done (101))<|Iq 64 15 101 (Li Q0 [65,J 1] 102<|.done (102))<|Ψ)<|Iq 64 1 74 (.call 118 [.agg [68,69,70]] 75 [none]<|.ite 75 (It Q9 [65,68] 76 (Iq 66 0 77 (Li Q0 [67,J 0] 78<|.done (78))<|Ψ)<|Ψ)<|Ψ)<|Iq 64 2 75 Ψ<|Iq 64 18 76 Ψ<|Iq 64 3 77 Ψ<|Iq 64 19 78 Ψ<|Iq 64 20 79 (It Q4 [66,J 0] 80 (It Qa [66,J 400] 81 Ψ<|Ψ)<|Ψ)<|Iq 64 21 80 (It Q4 [66,J 0] 81 (It Qa [66,J 400] 82 Ψ<|Ψ)<|Ψ)<|Iq 64 22 81 (It Q4 [65,J 11] 82 Ψ<|Ψ)<|Iq 64 23 82 Ψ<|Iq 64 17 83 (Iq 66 0 84 (It Q4 [65,J 2] 85 (It Q8 [65,J 5] 86 (It Q4 [67,J 2] 87 (Li Q8 [67,J 5] 88<|.done (88))<|Ψ)<|Ψ)<|Ψ)<|Ψ)<|It Q1 [66,J 0] 84 Ψ<|It Q1 [67,J 0] 85 Ψ<|It Qa [65,J 1] 86 Ψ<|It Qb [65,J 5] 87 Ψ<|Iq 64 4 88 (Li Q1 [65,J 1] 89<|.done (89))<|Iq 64 5 89 (Li Q1 [65,J 1] 90<|.done (90))<|Iq 64 6 90 (Li Q1 [65,J 1] 91<|.done (91))<|Iq 64 7 91 (Li Q1 [65,J 1] 92<|.done (92))<|Iq 64 16 92 (Li Q1 [65,J 1] 93<|.done (93))<|Iq 64 11 93 (Li Q1 [65,J 1] 94<|.done (94))<|Iq 64 12 94 (Li Q1 [65,J 1] 95<|.done (95))<|Iq 64 8 95 (.call 120 [65] 96 [none]<|.done (96))<|Iq 64 9 96 Ω<|Iq 64 10 97 Ω<|Iq 64 13 98 (Li Q0 [65,J 1] 99<|.done (99))<|Iq 64 14 99 (Li Q0 [65,J 1] 100<|.done (100))<|Iq 64 15 100 (Li Q0 [65,J 1] 101<|.done (101))<|Ψ
set_option maxHeartbeats 8000000 in
def qh (g:GI):AJ 77 [.agg (k_ g)] (.bool (decide (D6 g.op g.kd g.ad g.n g.vk g.vi g.vf))):=by
 obtain ⟨op,kd,ad,n,vk,vi,vf⟩:=g;refine Bx [some 7] (k_ ⟨op,kd,ad,n,vk,vi,vf⟩) c77 YN rfl (BM _) rfl rfl rfl (by kernel_rfl) λY hf hg=>?_;show AC _ (· =AV.bool (decide (D6 op kd ad n vk vi vf))) _ _ _;have hv:=uv vk vi vf;have hb0:=Y6 vf;rcases Af op with h|h|h|h|h|h|h|h|h|h|h|h
 .rw [decide_eq_decide.2 (iZ h)];unfold YN;repeat' first|(refine g_ rfl rfl ?_ ?_<;>intro h<;>simp only [nc]at h<;>try omega)|(refine Aq hv rfl rfl (Ax rfl (λhk=>?_) (λhk=>Ap (bF λh=>dF hk h.2.2.2))))|(refine Ap (bF λh=>?_);(try dsimp only);omega)|(refine Aa (Am ..) rfl (Ap (bE ⟨λh=>⟨by omega,h,by omega,dT hk⟩,λh=>h.2.1⟩)))|(refine Aa (AX ..) rfl ?_)|(refine Aa (Am ..) rfl ?_)
 all_goals
  first|rw [decide_eq_decide.2 (eL h)]|rw [decide_eq_decide.2 (cD h)]|rw [decide_eq_decide.2 (jW h)]|rw [decide_eq_decide.2 (fe h)]|rw [decide_eq_decide.2 (d8 h)]|rw [decide_eq_decide.2 (kN h)]|(have e1:=(Vt h).1;have e2:=(Vt h).2;rw [decide_eq_decide.2 (KE 1 5 (by omega) e1 e2)])|(have e1:=(U6 h).1;have e2:=(U6 h).2;rw [decide_eq_decide.2 (KE 1 1 (by omega) e1 e2)])|(have e1:=(TQ h).1;have e2:=(TQ h).2;rw [decide_eq_decide.2 (KE 2 4 (by omega) e1 e2)])|(have e1:=(S6 h).1;have e2:=(S6 h).2;rw [decide_eq_decide.2 (KE 2 5 (by omega) e1 e2)])|rw [decide_eq_decide.2 (o9 h)]
  (
   unfold YN;repeat' first
    |(refine g_ rfl rfl ?_ ?_<;>intro h<;>simp only [nc]at h<;>try omega)
    |(refine Ap (bF ?_);(try dsimp only);omega)
    |exact Ap (bF id)
    |(refine Ap (bT ?_);(try dsimp only);omega)
    |(refine Ap (bE ?_);(try dsimp only);omega)
    |(refine Aa (Am ..) rfl (Ap (bE ?_));(try dsimp only);omega)
    |(refine Aa (Bq ..) rfl (Ap (bE ?_));(try dsimp only);omega)
    |(refine Aa (Al ..) rfl (Ap (bN ?_));(try dsimp only);omega)
    |(refine Aq (On kd) rfl rfl (Ap (bE ?_));(try dsimp only);omega)
    |(refine Aq (Tj vf) rfl rfl ?_)
    |(refine Aa (AX ..) rfl ?_)
    |(refine Aa (Am ..) rfl ?_)
    |(refine Ax rfl (λhb=>?_) (λhb=>?_)<;>(first|replace hb:=dT hb|replace hb:=dF hb)<;>(try dsimp only at hb)))
structure WG where
 N:Nat
 tk:Nat->Nat
 lv:Nat->Nat
 goes:Nat->List Nat
structure WG.Ok (g:WG):Prop where
 pos:0<g.N
 inn:∀a,a<g.N->∀b∈g.goes a,b<g.N
 two:∀a,(g.goes a).length<=2
def WG.full (g:WG) (w:Nat×Nat):Bool:=decide (w.2<g.tk w.1)||decide (16<w.2-g.tk w.1+g.lv w.1)
def WG.hi (g:WG) (w:Nat×Nat):Nat:=w.2-g.tk w.1+g.lv w.1
def WG.nxt (g:WG) (w:Nat×Nat):List (Nat×Nat):=if g.full w=true then []else (g.goes w.1).map λb=>(b,g.hi w)
inductive WG.Reach (g:WG):Nat×Nat->Prop
 |zero:WG.Reach g (0,0)
 |step {w w':Nat×Nat}:WG.Reach g w->w'∈g.nxt w->WG.Reach g w'
variable {g:WG}
def WG.nxt_hi {w w':Nat×Nat} (h:w'∈g.nxt w):g.full w=false/\w'.2=g.hi w/\w'.1∈g.goes w.1/\g.hi w<=16:=by unfold WG.nxt at h;split at h;cases h;rename_i hf;obtain ⟨b,hb,rfl⟩:=List.mem_map.1 h;have hf:g.full w=false:=(by simpa using hf);refine ⟨hf,rfl,hb,?_⟩;unfold WG.full at hf;simp only [Bool.or_eq_false_iff,AY]at hf;have:=hf.2;unfold WG.hi;omega
def WG.nxt_in (hg:g.Ok) {w w':Nat×Nat} (hw:w.1<g.N) (h:w'∈g.nxt w):w'.1<g.N/\w'.2<=16:=by obtain ⟨_,h1,h2,h3⟩:=WG.nxt_hi h;exact ⟨hg.inn _ hw _ h2,by omega⟩
def WG.nxt_two (hg:g.Ok) (w:Nat×Nat):(g.nxt w).length<=2:=by unfold WG.nxt;split;simp;rw [List.length_map];exact hg.two _
def Fw (S:Nat->Bool):Nat->Nat
 |0=>0
 |n+1=>Fw S n+(if S n=true then 0 else 1)
def KH (S:Nat->Bool) (i:Nat):Nat->Bool:=λj=>S j||decide (j=i)
theorem dg (S:Nat->Bool) (i:Nat):∀n,n<=i->Fw (KH S i) n=Fw S n
 |0,_=>rfl
 |n+1,h=>by have e:¬n=i:=(by omega);simp only [Fw,dg S i n (by omega),KH,e,decide_false,Bool.or_false]
def ng (S:Nat->Bool) (i:Nat) (hs:S i=false):∀n,i<n->Fw (KH S i) n+1=Fw S n
 |0,h=>by omega
 |n+1,h=>by by_cases e:n=i;subst e;simp only [Fw,dg S n n (Nat.le_refl _),KH,hs];simp;have:=ng S i hs n (by omega);have e2:KH S i n=S n:=(by simp [KH,e]);simp only [Fw,e2];omega
def mZ (S:Nat->Bool):∀n,Fw S n<=n
 |0=>Nat.le_refl _
 |n+1=>by have:=mZ S n;simp only [Fw];split<;>omega
theorem TK {S S':Nat->Bool}:∀n,(∀i,i<n->S i=S' i)->Fw S n=Fw S' n
 |0,_=>rfl
 |n+1,h=>by simp only [Fw,h n (by omega),TK n λi hi=>h i (by omega)]
def MI (s:List (Nat×Nat)) (k:Nat):Bool:=decide ((k/17,k%17)∈s)
def AO (g:WG) (s:List (Nat×Nat)):Nat:=Fw (MI s) (17*g.N)
def j3 {s:List (Nat×Nat)} {w:Nat×Nat} (h1:w.1<g.N) (h2:w.2<=16) (hn:w∉s):AO g (s++[w])+1=AO g s:=by
 have hk:(w.1*17+w.2)/17=w.1/\(w.1*17+w.2)%17=w.2:=by omega
 have he:Fw (MI (s++[w])) (17*g.N)=Fw (KH (MI s) (w.1*17+w.2)) (17*g.N):=TK _ λi hi=>by unfold MI KH;by_cases hm:(i/17,i%17)∈s;simp [hm];have:((i/17,i%17)=w)↔i=w.1*17+w.2:=(by constructor;intro h;have a:=congrArg Prod.fst h;have b:=congrArg Prod.snd h;simp only at a b;omega;intro h;obtain ⟨x,y⟩:=w;simp only at h hk;subst h;exact Prod.ext hk.1 hk.2);by_cases hi':i=w.1*17+w.2;rw [this.2 hi',AD hi'];simp;have hne:¬(i/17,i%17)=w:=λh=>hi' (this.1 h);simp [hm,hne,hi']
 unfold AO;rw [he];refine ng _ _ ?_ _ (by omega);unfold MI;rw [hk.1,hk.2];simpa using hn
def fE (g:WG) (s:List (Nat×Nat)):AO g s<=17*g.N:=mZ _ _
structure BA (g:WG) (s t:List (Nat×Nat)):Prop where
 nd:s.Nodup
 rs:∀w∈s,g.Reach w/\w.1<g.N/\w.2<=16
 rt:∀w∈t,g.Reach w/\w.1<g.N/\w.2<=16
 z:(0,0)∈s\/(0,0)∈t
 cl:∀w∈s,∀w'∈g.nxt w,w'∈s\/w'∈t
 lt:t.length+2*AO g s<=1+34*g.N
def BA.begin (hg:g.Ok):BA g [] [(0,0)] where
 nd:=List.nodup_nil
 rs:=λw h=>(za' h).elim
 rt:=λw h=>by rw [List.mem_singleton.1 h];exact ⟨.zero,hg.pos,zd' _⟩
 z:=.inr (List.mem_singleton.2 rfl)
 cl:=λw h=>(za' h).elim
 lt:=by have:=fE g [];simp only [EE];omega
def BA.seen {s t t':List (Nat×Nat)} {w:Nat×Nat} (h:BA g s t) (ht:∀v,v∈t↔v=w\/v∈t') (hl:t'.length+1=t.length) (hw:w∈s):BA g s t' where
 nd:=h.nd
 rs:=h.rs
 rt:=λv hv=>h.rt v ((ht v).2 (.inr hv))
 z:=h.z.elim .inl λh0=>((ht _).1 h0).elim (λe=>.inl (e▸hw)) .inr
 cl:=λv hv v' hv'=>(h.cl v hv v' hv').elim .inl λh0=>((ht _).1 h0).elim (λe=>.inl (e▸hw)) .inr
 lt:=by have:=h.lt;omega
def BA.fresh (hg:g.Ok) {s t t' t2:List (Nat×Nat)} {w:Nat×Nat} (h:BA g s t) (ht:∀v,v∈t↔v=w\/v∈t') (hl:t'.length+1=t.length) (hw:w∉s)
  (ht2:∀v,v∈t2↔v∈t'\/v∈g.nxt w) (hl2:t2.length=t'.length+(g.nxt w).length):BA g (s++[w]) t2/\2*AO g (s++[w])+t2.length<2*AO g s+t.length:=by
 have hwt:g.Reach w/\w.1<g.N/\w.2<=16:=h.rt w ((ht w).2 (.inl rfl));have hls:=j3 (s:=s) hwt.2.1 hwt.2.2 hw;have h2:=WG.nxt_two hg w;have hlt:=h.lt;refine ⟨⟨?_,?_,?_,?_,?_,?_⟩,by omega⟩;rw [List.nodup_append];refine ⟨h.nd,by simp,?_⟩;intro a ha b hb e;rw [List.mem_singleton.1 hb]at e;exact hw (e▸ha);intro v hv;rcases List.mem_append.1 hv with hv|hv;exact h.rs v hv;rw [List.mem_singleton.1 hv];exact hwt;intro v hv;rcases (ht2 v).1 hv with hv|hv;exact h.rt v ((ht v).2 (.inr hv));exact ⟨.step hwt.1 hv,WG.nxt_in hg hwt.2.1 hv⟩;rcases h.z with h0|h0;exact .inl (zf' _ h0);rcases (ht _).1 h0 with e|h0;exact .inl (zg' _ (List.mem_singleton.2 e));exact .inr ((ht2 _).2 (.inl h0));intro v hv v' hv';rcases List.mem_append.1 hv with hv|hv;rcases h.cl v hv v' hv' with h0|h0;exact .inl (zf' _ h0);rcases (ht _).1 h0 with e|h0;exact .inl (zg' _ (List.mem_singleton.2 e));exact .inr ((ht2 _).2 (.inl h0));rw [List.mem_singleton.1 hv]at hv';exact .inr ((ht2 _).2 (.inr hv'));omega
def Bk_:∀(s:List (Nat×Nat)),s.Nodup->(∀w∈s,w.1<g.N/\w.2<=16)->AO g s+s.length<=17*g.N:=by
 intro s;generalize hn:s.length=n
 induction n generalizing s with
 |zero=>intro _ _;exact fE g s
 |succ n ih=>intro hd hin;have hne:s≠[]:=λe=>(by rw [e]at hn;cases hn);have e:=(List.dropLast_concat_getLast hne).symm;generalize s.dropLast=r at e;generalize s.getLast hne=w at e;subst e;rw [List.nodup_append]at hd;have hw:w∉r:=λh=>hd.2.2 w h w (List.mem_singleton.2 rfl) rfl;have h1:=hin w (zg' _ (List.mem_singleton.2 rfl));have:=j3 (g:=g) h1.1 h1.2 hw;have hl:r.length=n:=(by rw [List.length_append]at hn;simp at hn;omega);have:=ih r hl hd.1 λv hv=>hin v (zf' _ hv);omega
def BA.len_le {s t:List (Nat×Nat)} (h:BA g s t):s.length<=17*g.N:=by have:=Bk_ s h.nd λw hw=>(h.rs w hw).2;omega
def BA.all {s:List (Nat×Nat)} (h:BA g s []) {w:Nat×Nat} (hr:g.Reach w):w∈s:=by
 induction hr with
 |zero=>exact h.z.elim id λh0=>(za' h0).elim
 |step _ hw ih=>exact (h.cl _ ih _ hw).elim id λh0=>(za' h0).elim
def WG.Full (g:WG):Prop:=∃w,g.Reach w/\g.full w=true
def WG.Two (g:WG):Prop:=∃a h h',g.Reach (a,h)/\g.Reach (a,h')/\h≠h'
def Hs (g:WG) (s:List (Nat×Nat)):Bool:=s.any g.full
def C5 (s:List (Nat×Nat)) (a:Nat):Nat:=s.countP λw=>w.1==a
def Q_ (s:List (Nat×Nat)):Bool:=s.any λw=>decide (1<C5 s w.1)
def wV {s:List (Nat×Nat)} (hn:s.Nodup) {a h h':Nat} (h1:(a,h)∈s) (h2:(a,h')∈s) (hne:h≠h'):1<C5 s a:=by
 induction s with
 |nil=>cases h1
 |cons x s ih=>
  rw [List.nodup_cons]at hn;have one:∀{k},(a,k)∈s->0<C5 s a:=λhk=>List.countP_pos_iff.2 ⟨_,hk,by simp⟩;unfold C5;rw [List.countP_cons];rcases List.mem_cons.1 h1 with e1|m1<;>rcases List.mem_cons.1 h2 with e2|m2
  exact absurd (congrArg Prod.snd (e1.trans e2.symm)) hne;have:=one m2;unfold C5 at this;subst e1;simp only [BEq.rfl,if_true];omega;have:=one m1;unfold C5 at this;subst e2;simp only [BEq.rfl,if_true];omega;have:=ih hn.2 m1 m2;unfold C5 at this;omega
def yx {s:List (Nat×Nat)} (hn:s.Nodup) {a:Nat} (h:1<C5 s a):∃k k',(a,k)∈s/\(a,k')∈s/\k≠k':=by
 induction s with
 |nil=>simp [C5]at h
 |cons x s ih=>rw [List.nodup_cons]at hn;unfold C5 at h;rw [List.countP_cons]at h;by_cases hx:x.1=a;have h0:0<s.countP λw=>w.1==a:=(by have:(x.1==a)=true:=(by simp [hx]);rw [Ad this]at h;omega);obtain ⟨y,hy,hya⟩:=List.countP_pos_iff.1 h0;have hya:y.1=a:=(by simpa using hya);refine ⟨x.2,y.2,?_,?_,?_⟩;rw [←hx];exact zb' ..;rw [←hya];exact zc' _ hy;intro e;have:x=y:=Prod.ext (hx.trans hya.symm) e;exact hn.1 (this▸hy);have:¬((x.1==a)=true):=(by simpa using hx);rw [Ab this]at h;obtain ⟨k,k',h1,h2,h3⟩:=ih hn.2 (by unfold C5;omega);exact ⟨k,k',zc' _ h1,zc' _ h2,h3⟩
def BA.full {s:List (Nat×Nat)} (h:BA g s []):Hs g s=true↔g.Full:=by unfold Hs;rw [List.any_eq_true];exact ⟨λ⟨w,h1,h2⟩=>⟨w,(h.rs w h1).1,h2⟩,λ⟨w,h1,h2⟩=>⟨w,h.all h1,h2⟩⟩
def BA.two {s:List (Nat×Nat)} (h:BA g s []):Q_ s=true↔g.Two:=by unfold Q_;rw [List.any_eq_true];constructor;rintro ⟨w,h1,h2⟩;obtain ⟨k,k',m1,m2,hne⟩:=yx h.nd (by simpa using h2);exact ⟨w.1,k,k',(h.rs _ m1).1,(h.rs _ m2).1,hne⟩;rintro ⟨a,k,k',m1,m2,hne⟩;exact ⟨(a,k),h.all m1,by simpa using wV h.nd (h.all m1) (h.all m2) hne⟩
theorem mw {s:List (Nat×Nat)} {w:Nat×Nat}:Q_ (s++[w])=(Q_ s||decide (1<C5 s w.1+1)):=by
 have hc:∀a,C5 (s++[w]) a=C5 s a+(if w.1=a then 1 else 0):=λa=>by unfold C5;rw [List.countP_append,List.countP_singleton];by_cases h:w.1=a<;>simp [h]
 apply Bool.eq_iff_iff.2;unfold Q_;simp only [List.any_append,List.any_cons,List.any_nil,Bool.or_false,Bool.or_eq_true,List.any_eq_true,AH,hc,if_true];constructor;rintro (⟨v,h1,h2⟩|h2);by_cases e:w.1=v.1;rw [Ad e]at h2;right;rw [e];exact h2;rw [Ab e]at h2;exact .inl ⟨v,h1,h2⟩;exact .inr h2;rintro (⟨v,h1,h2⟩|h2);exact .inl ⟨v,h1,by omega⟩;exact .inr h2
theorem bi {s:List (Nat×Nat)} {w:Nat×Nat}:Hs g (s++[w])=(Hs g s||g.full w):=by unfold Hs;simp
def c79:VC:=⟨⟨[],[]⟩,[],[],0,true,[]⟩
def kZ:VT:=Iq 64 1 71 (Dn [J 1])<|Iq 64 2 72 (Dn [J 1])<|Iq 64 3 73 (.done (.tup [J 1,J 1]))<|Iq 64 17 74 (.done (.tup [J 1,J 1]))<|Iq 64 15 75 (.done (.tup [J 1,J 1]))<|Iq 64 16 76 (.done (.tup [J 1,J 1]))<|Iq 64 18 77 (.done (.tup [J 1,J 0]))<|Iq 64 21 78 (.done (.tup [J 1,J 0]))<|Iq 64 19 79 (.done (.tup [J 2,J 0]))<|Iq 64 20 80 (Dn [J 0])<|Iq 64 23 81 (Dn [J 0])<|Iq 64 22 82 (.done (.tup [67,J 0]))<|.done (.tup [J 2,J 1])
def x6:VC:=⟨⟨[],[]⟩,[(79,[none,none]),(85,[(some 3),none]),(86,[(some 3),none])],[(10011,[⟨[],[],0,0,[],[],[(5,1)]⟩])],0,true,[(84,D5)]⟩
def Jw:VT:=Li Qe [.vsl 0 3 [],67] 74<|Li Q3 [68,J 1] 75<|Li Qk [64,65] 76<|.lt Qy [76] 77 (some 7)<|.call 79 [.agg (Ae 77 7)] 84 [none,none]<|Li Qz [73] 86<|It Q5 [86,84] 87 (Dn [65,73,74,75,69,70,J 12])<|Li Qz [73] 88<|Li Zg [88,84] 89<|Li (.slc 34 true false) [73,89] 90<|Li Qz [73] 91<|Li Zg [91,84] 92<|Li (.slc 34 false true) [73,92] 93<|Li Qe [.vsl 0 3 [],93] 94<|Li Q3 [65,J 1] 95<|Iq 77 1 96 (Li Qe [94,.agg [81,82,83]] 97<|Dn [95,97,74,75,69,70,71])<|Iq 77 2 97 (Li Q2 [74,79] 98<|.lt Qx [74,98] 99 (some 3)<|Li Qe [94,.agg [99,100,101]] 102<|Dn [95,102,74,75,69,70,71])<|Iq 77 3 98 (Li Qw [90,J 0] 99<|Li Zd [99] 100<|Li Z9 [100] 101<|It Z8 [101,J 0] 102 (Dn [65,66,67,75,69,70,J 6])<|Li Qw [90,J 0] 103<|Li Zd [103] 104<|Li Z9 [104] 105<|It Qu [105,80] 106 (Dn [65,66,67,75,69,70,J 6])<|Li Qw [90,J 0] 107<|Li Zd [107] 108<|Li Z9 [108] 109<|Li Qr [79,109] 110<|Li Q2 [74,110] 111<|.lt Qx [74,111] 112 (some 3)<|Li Qe [94,.agg [112,113,114]] 115<|Dn [95,115,74,75,69,70,71])<|Iq 77 18 99 (Li Qw [90,J 0] 100<|.lt Zc [100] 101 (some 3)<|Li Q2 [74,79] 104<|Li Z1 [74,104,.agg [101,102,103]] 105<|.chk (.same 74 105)<|Dn [95,94,105,75,69,70,71])<|Iq 77 19 100 (Li Qw [90,J 1] 101<|Li Zd [101] 102<|Li Z9 [102] 103<|It Z8 [103,J 0] 104 (Dn [65,66,67,75,69,70,J 6])<|Li Qw [90,J 1] 105<|Li Zd [105] 106<|Li Z9 [106] 107<|It Qu [107,80] 108 (Dn [65,66,67,75,69,70,J 6])<|Li Qw [90,J 1] 109<|Li Zd [109] 110<|Li Z9 [110] 111<|Li Qr [79,111] 112<|Li Qw [90,J 0] 113<|.lt Zc [113] 114 (some 3)<|Li Q2 [74,112] 117<|Li Z1 [74,117,.agg [114,115,116]] 118<|.chk (.same 74 118)<|Dn [95,94,118,75,69,70,71])<|Iq 77 20 101 (Dn [79,94,74,75,69,70,71])<|Iq 77 21 102 (Li Qw [90,J 0] 103<|Li Zd [103] 104<|Li Z9 [104] 105<|It Qt [105,J 0] 106 (Dn [79,94,74,75,69,70,71])<|Dn [95,94,74,75,69,70,71])<|Iq 77 22 103 (It .emp [90] 104 .bad<|Li Qe [.vsl 0 3 [],90] 105<|Cf 84 D5 [74,78,79,105,69] 106 1<|.chk (.same 74 111)<|Dn [95,94,111,75,69,70,71])<|Iq 77 23 104 (Dn [65,94,74,75,69,.bool true,71])<|Iq 77 17 105 (Li Qw [90,J 0] 106<|.lt Zc [106] 107 (some 3)<|.call 85 [78,.agg [107,108,109]] 110 [(some 3),none]<|It Q7 [113,J 0] 114 (Dn [65,66,67,75,69,70,113])<|Li Qe [94,.agg [110,111,112]] 115<|Dn [95,115,74,75,69,70,71])<|Li Qe [.vsl 0 3 [],90] 106<|Li Qe [106,.agg [J 0,J 0,.flt .f64 0]] 107<|Li Q2 [107,J 0] 108<|.lt Qx [107,108] 109 (some 3)<|Li Q2 [107,J 1] 112<|.lt Qx [107,112] 113 (some 3)<|.call 86 [77,78,.agg [109,110,111],.agg [113,114,115]] 116 [(some 3),none]<|It Q7 [119,J 0] 120 (Dn [65,66,67,75,69,70,119])<|Li Qe [94,.agg [116,117,118]] 121<|Dn [95,121,74,75,69,70,71]
def Be:VT:=(.lt (.app 3 24) [.vsl 0 3 [],.sym 66] 73 none Jw)
def iA:VT:=.ite 70 (Dn (Ae 65 7))<|It Q7 [71,J 0] 72 (Dn (Ae 65 7))<|.both (.both (.both (Li (.app 3 24) [.vsl 0 3 [],66] 73<|.both Jw Jw)<|.both (.both Be Be)<|.both Be Be)<|.both (.both (.both Be Be) Be)<|.both (.both Be Be) Be)<|.both (.both (.both (Li (.app 3 24) [.vsl 0 3 [],66] 73<|.both Jw Jw)<|.both (.both Be Be)<|.both Be Be)<|.both (.both (.both Be Be) Be)<|.both (.both Be Be) Be)<|.both (.both (.both (.both Be Be) Be)<|.both (.both (.both Be Be) Be)<|.both Be Be)<|.both (.both (.both Be Be) Be)<|.both (.both (.both Be Be) Be)<|.both Be Be
def Mi {Q:AV->Prop} {L:List (Nat->List AV->Prop)} {Y:Sy} {e o:AV} {l:List FV} {j n:Nat} {t:VT} (he:An Y.v [e,o]=[c_ l,.int .i64 (j:Int)]) (hj:j<l.length)
  (h:AC Tryz.prog Q L (((Y.put n (.vptr (Ay f_ (l.drop j)))).put (n+1) (.vptr (.int .i64 l[j].i::fv l[j].f::Ay f_ (l.drop (j+1))))).put (n+2) (.int .i64 l[j].i)) t):
  AC Tryz.prog Q L Y (.lt (.iaddr 34) [e,o] n none (.lt (.faddr 62 1) [.sym n] (n+1) none (.lt (.load 2) [.sym (n+1)] (n+2) none t))):=by
 refine Aa (r:=.vptr (Ay f_ (l.drop j))) (by rw [he];exact Mz l hj) (A9 BI _) (Aa ?_ ?_ (Aa ?_ rfl h));rw [show An (Y.put n (.vptr (Ay f_ (l.drop j)))).v [.sym n]=[.vptr (Ay f_ (l.drop j))] by simp [An,Ar,Sy.put]];rw [C7 hj];kernel_rfl;simp only [okC,Ak,CY];exact A9 BI _;rw [show ∀(Y:Sy) z,An (Y.put (n+1) z).v [.sym (n+1)]=[z] from λY z=>by simp [An,Ar,Sy.put]];kernel_rfl
def u_ (op:Int):Int:=if 18<=op/\op<=23 then 0 else 1
def cr {a b c d:Int} (h:a=c) (h':b=d):AV.tup [.int .i64 a,.int .i64 b]=.tup [.int .i64 c,.int .i64 d]:=by rw [h,h']
def kB {i:GI} (hn:i.op=22->0<=i.n):AJ 79 [.agg (k_ i)] (.tup [.int .i64 (d_ i:Int),.int .i64 (u_ i.op)]):=by
 obtain ⟨op,kd,ad,n,vk,vi,vf⟩:=i;simp only at hn;refine Bx [some 7] (k_ ⟨op,kd,ad,n,vk,vi,vf⟩) c79 kZ rfl (BM _) rfl rfl rfl (by kernel_rfl) λY hf hg=>?_;unfold kZ;repeat' (refine g_ rfl rfl ?_ ?_<;>intro h<;>simp only [nc]at h<;>try omega)
 all_goals exact Ap (cr (by unfold d_;simp only;(repeat' split)<;>omega) (by unfold u_;simp only;split<;>omega))
def qO {a b:List FV} (h:a.length=b.length):(some (c_ a)=some .nsl/\some (c_ b)=some .nsl)\/∃n z cs ds,some (c_ a)=some (.vsl n z cs)/\some (c_ b)=some (.vsl n z ds):=by
 cases a with
 |nil=>cases b with
  |nil=>exact .inl ⟨rfl,rfl⟩
  |cons y t=>cases h
 |cons x r=>cases b with
  |nil=>cases h
  |cons y t=>refine .inr ⟨r.length+1,3,Ay f_ (x::r),Ay f_ (y::t),rfl,?_⟩;show some (AV.vsl (t.length+1) 3 _)=_;rw [show t.length=r.length from (Nat.succ.inj h).symm]
def vx {l:List GI} {T:List (List Int)} {m:MS} {s:AV} (hG:Av T 0 l) (hn: -9223372036854775808<=m.now/\m.now<=9223372036854775807) (hl:l.length<=400) (hu:0<=m.used/\m.used<=1000000) (hmt:Gh l T m) (hs:St m.st s):
  Bl 44 JU (h_ l::KR m s) (NJ (e_ l m)):=by
 obtain ⟨p,i,K,h⟩:=hmt;obtain ⟨hp,hi⟩:=List.getElem?_eq_some_iff.1 h.at_;have hT:=hG p i K h.at_ (by rw [Nat.zero_add];exact h.ty);rw [Nat.zero_add]at hT;have hinst:=h.inst;have hm:=h.mem;have hlen:=hm.len;have stuck:Ky m->e_ l m=m:=λh=>oq h;have hpc:=h.pc;have tv:=h.tv;rw [←h.st]at hT;obtain ⟨K0,ks,hK,hks,h40,hT⟩:=hT;obtain ⟨s1,s2⟩:=WR hK;rw [hks]at s1 s2;have hl40:m.st.length<=40:=by rw [List.length_map]at h40;exact h40
 have htk:d_ i<=m.st.length:=by have:=congrArg List.length hK;rw [List.length_map,List.length_append,hks]at this;omega
 have v2:∀v∈m.st.drop (m.st.length-d_ i),TV v:=λv hv=>tv v (List.mem_of_mem_drop hv);have h22:i.op=22->0<=i.n:=λh=>by rcases hT with ⟨k,hk,hT⟩|⟨hk,hT⟩|⟨h20,_⟩|h23;rcases hT with ⟨h1,_⟩|⟨h1,_⟩|⟨h1,_⟩|⟨h1,_⟩|⟨h1,_⟩;omega;omega;omega;omega;unfold Do at h1;omega;rcases hT with ⟨h1,_⟩|⟨h1,_⟩|⟨_,_,h1⟩|⟨h1,_⟩;omega;omega;omega;omega;omega;omega
 have h60:=kB (i:=i) h22;refine B3 x6 iA rfl rfl (by kernel_rfl) λY hf hg=>?_;unfold iA;refine Ax (t:=m.over) rfl (λhov=>?_) (λhov=>?_);rw [stuck (.inl hov)];exact Dw hs rfl
 (refine g_ rfl rfl ?_ ?_<;>intro h<;>simp only [nc]at h<;>try omega)
 rw [stuck (.inr h)];exact Dw hs rfl;have he:m.err=0:=h;have hstep:e_ l m=Ct i m (m.st.take (m.st.length-d_ i)) (m.st.drop (m.st.length-d_ i)):=by unfold e_;rw [Ab (λhh=>by rcases hh with hh|hh;exact (by rw [hov]at hh;cases hh);exact hh he),hinst]
 rw [hstep];obtain ⟨c1,hc1,sc1⟩:=SlV.app (P:=Tryz.prog) (bytes:=24) Eh (by decide) (by decide) (SlV.v []) hs (by simp;omega);rw [List.nil_append]at sc1;obtain ⟨x,hx,sx⟩:=sc1.slc10 (P:=Tryz.prog) (t:=34) (e:=62) (ti:=(Tryz.prog.info? 62).get!) Tryz.underlying34 (by kernel_rfl) (by kernel_rfl) Eh (k:=.i64) (i:=m.st.length-d_ i) (by omega);obtain ⟨y,hy,sy⟩:=sc1.slc01 (P:=Tryz.prog) (t:=34) (e:=62) (ti:=(Tryz.prog.info? 62).get!) Tryz.underlying34 (by kernel_rfl) (by kernel_rfl) Eh (k:=.i64) (j:=m.st.length-d_ i) (by omega);obtain ⟨r,hr,sr⟩:=SlV.app (P:=Tryz.prog) (bytes:=24) Eh (by decide) (by decide) (SlV.v []) sy (by rw [List.length_take];simp;omega);rw [List.nil_append]at sr;obtain ⟨c2,hc2,sc2⟩:=SlV.app (P:=Tryz.prog) (bytes:=24) Eh (by decide) (by decide) (SlV.v []) sx (by rw [List.length_drop];simp;omega);rw [List.nil_append]at sc2;have hlr:(m.st.take (m.st.length-d_ i)).length<=40:=by rw [List.length_take];omega
 have hln:(m.st.drop (m.st.length-d_ i)).length=d_ i:=by rw [List.length_drop];omega
 have hia:=oC hp;rw [←hpc]at hia;have hld:=jd hp;rw [hi]at hld;have hlen1:=sc1.len Tryz.underlying34;obtain ⟨df,hdf⟩:∃d:Nat,d=m.st.length-d_ i:=⟨_,rfl⟩;have hsb:∀(t:TypeId) (cx cy:Bool),(XOp.bin .sub t cx cy).run Tryz.prog [.int .i64 (m.st.length:Int),.int .i64 (d_ i:Int)]=some (.int .i64 ((m.st.length-d_ i:Nat):Int)):=λt cx cy=>V_ (by omega) (by omega) (by omega);have hltk:¬(m.st.length:Int)<(d_ i:Int):=by omega
 generalize m.st.take (m.st.length-d_ i)=rest at*;generalize m.st.drop (m.st.length-d_ i)=inn at*;have app1:∀v,∃z,(XOp.app 3 24).run Tryz.prog [r,.agg (f_ v)]=some z/\St (rest++[v]) z:=λv=>sr.app1 (bytes:=24) Eh (by decide) (by decide) v (by omega);have key:∀z,AC Tryz.prog (QF (NJ (Ct i m rest inn))) [] (((Y.puts 64 (h_ l::KR m s)).put 72 z).put 73 c1) Jw:=by
  intro z72;unfold Jw;refine Aa (YO hm) (G_ _) (Aa (o_ (x:=m.used) (by omega) (by omega)) rfl (Aa hia (A9 BM _) (BV hld rfl (BM i) (Aq h60 rfl rfl (Aa hlen1 rfl ?_)))))
  (refine g_ rfl rfl ?_ ?_<;>intro h<;>simp only [nc]at h<;>try omega)
  refine Aa hlen1 rfl (Aa (hsb _ _ _) rfl (Aa hx (St.okC sx) (Aa hlen1 rfl (Aa (hsb _ _ _) rfl (Aa hy (St.okC sy) (Aa hr (St.okC sr) (Aa (o_ (x:=m.pc) (by omega) (by omega)) rfl ?_)))))));clear hf hg hlen1 hsb hx hy hr h60 hld hia hc1 sc1 stuck hinst hstep hi;obtain ⟨op,kd,ad,n,vk,vi,vf⟩:=i;simp only at hT;rcases hT with ⟨k,hk,hT⟩|⟨hk,hT⟩|⟨h20,q,hq,hT⟩|h23
  .rcases hT with ⟨h1,h2,h3⟩|⟨h1,h2⟩|⟨h1,h2,h3,h4,h5⟩|⟨h1,h2,h3,h4,h5,h6⟩|⟨h1,h2,h3⟩
   .subst h1;rw [J7 (v:=⟨vk,vi,some vf⟩) (by show (1:Int)<=17;decide) rfl];obtain ⟨z,hz,sz⟩:=app1 ⟨vk,vi,some vf⟩
    (refine g_ rfl rfl ?_ ?_<;>intro h<;>simp only [nc]at h<;>try omega)
    exact Aa hz (St.okC sz) (Dw (m:=CI m (m.pc+1) (rest++[(⟨vk,vi,some vf⟩:FV)]) m.mem) sz rfl)
   .subst h1;obtain ⟨q1,q2,q3⟩:=ED _ h2;simp only at q1 q2;obtain ⟨j,rfl⟩:∃j:Nat,ad=(j:Int):=⟨ad.toNat,by omega⟩;have hj:j<m.mem.length:=(by omega);rw [J7 (v:=m.mem[j]) (by show (2:Int)<=17;decide) (by show Except.ok (cell m.mem (j:Int))=_;rw [VO hj])];obtain ⟨z,hz,sz⟩:=app1 m.mem[j]
    (refine g_ rfl rfl ?_ ?_<;>intro h<;>simp only [nc]at h<;>try omega)
    (refine g_ rfl rfl ?_ ?_<;>intro h<;>simp only [nc]at h<;>try omega)
    exact Aa (A_ m.mem hj) rfl (BV (MJ m.mem hj) rfl (BI _) (Aa hz (St.okC sz) (Dw (m:=CI m (m.pc+1) (rest++[m.mem[j]]) m.mem) sz rfl)))
   .subst h1 h2 h3;obtain ⟨a,rfl,hak⟩:∃x,inn=[x]/\(x.k=2\/x.k=3):=by rcases h5 with h5|h5;obtain ⟨x,e,hx⟩:=X_ (s2.trans h5);exact ⟨x,e,.inl hx⟩;obtain ⟨x,e,hx⟩:=X_ (s2.trans h5);exact ⟨x,e,.inr hx⟩
    obtain rfl:x=c_ [a]:=sx.eq (by simp);have ht:∀b,FI ⟨3,kd,8,4,vk,vi,vf⟩ m.mem a b=if a.i<0\/4<=a.i then .error 6 else .ok (cell m.mem (8+a.i)):=λb=>by rw [Mr (by show (3:Int)≠1;decide) (by show (3:Int)≠2;decide)];rfl
    have bad:a.i<0\/4<=a.i->Ct ⟨3,kd,8,4,vk,vi,vf⟩ m rest [a]=Fr m 6:=λhr=>R0 (e:=6) (by show (3:Int)<=17;decide) ((ht _).trans (Ad hr))
    (refine g_ rfl rfl ?_ ?_<;>intro h<;>simp only [nc]at h<;>try omega)
    (refine g_ rfl rfl ?_ ?_<;>intro h<;>simp only [nc]at h<;>try omega)
    (refine g_ rfl rfl ?_ ?_<;>intro h<;>simp only [nc]at h<;>try omega)
    refine Mi (l:=[a]) (j:=0) rfl (by simp) ?_
    (refine g_ rfl rfl ?_ ?_<;>intro h<;>simp only [nc]at h<;>try omega)
    rw [bad (.inl h)];exact Dw (m:=Fr m 6) hs rfl;have h0:=h;refine Mi (l:=[a]) (j:=0) rfl (by simp) ?_
    (refine g_ rfl rfl ?_ ?_<;>intro h<;>simp only [nc]at h<;>try omega)
    rw [bad (.inr h)];exact Dw (m:=Fr m 6) hs rfl;have hr':¬(a.i<0\/4<=a.i):=(by have h0:0<=a.i:=h0;have h4:a.i<4:=h;omega);obtain ⟨j,hj0⟩:∃j:Nat,8+a.i=(j:Int):=⟨(8+a.i).toNat,by omega⟩;have hj:j<m.mem.length:=(by omega);rw [J7 (v:=m.mem[j]) (by show (3:Int)<=17;decide) (by show FI _ _ a _=_;rw [ht,Ab hr',hj0,VO hj])];obtain ⟨z,hz,sz⟩:=app1 m.mem[j];refine Mi (l:=[a]) (j:=0) rfl (by simp) (Aa (o_ (x:=8) (y:=a.i) (by omega) (by omega)) rfl ?_);rw [hj0];exact Aa (A_ m.mem hj) rfl (BV (MJ m.mem hj) rfl (BI _) (Aa hz (St.okC sz) (Dw (m:=CI m (m.pc+1) (rest++[m.mem[j]]) m.mem) sz rfl)))
   .subst h1 h4;obtain ⟨a,rfl,ha⟩:=X_ (s2.trans h5);obtain rfl:x=c_ [a]:=sx.eq (by simp);have ht:∀b,FI ⟨17,k,ad,n,vk,vi,vf⟩ m.mem a b=H_ k a:=λb=>by rw [Mr (by show (17:Int)≠1;decide) (by show (17:Int)≠2;decide)];rfl
    repeat (refine g_ rfl rfl ?_ ?_<;>intro h<;>simp only [nc]at h<;>try omega)
    refine Aa (Mz [a] (i:=0) (by simp)) (A9 BI _) (BV (LT [a] (i:=0) (by simp)) rfl (BI a) ?_);refine Aq (vs:=f_ (KY k a)++[.int .i64 (Kk k a)]) (qq ⟨h2,h3⟩ a (by omega)) rfl (nQ _ _) ?_;cases hc:H_ k a with
    |ok v=>obtain ⟨e1,e2⟩:=Pj hc;rw [e1,e2,J7 (v:=v) (by show (17:Int)<=17;decide) ((ht _).trans hc)];obtain ⟨z,hz,sz⟩:=app1 v;refine Aa (Al ..) rfl (Ax rfl (λh=>by cases h) (λ_=>?_));exact Aa hz (St.okC sz) (Dw (m:=CI m (m.pc+1) (rest++[v]) m.mem) sz rfl)
    |error e=>obtain ⟨e1,e2⟩:=fa hc;have he:=oa hc;rw [e1,e2,R0 (e:=e) (by show (17:Int)<=17;decide) ((ht _).trans hc)];subst he;exact Aa (Al ..) rfl (Ax rfl (λ_=>Dw (m:=Fr m 7) hs rfl) (λh=>by cases h))
   .have hop:=h1;unfold Do at hop;have h317:op≠3/\op≠17:=⟨by omega,by omega⟩;have ht:∀a b,FI ⟨op,kd,ad,n,vk,vi,vf⟩ m.mem a b=CV op a b:=λa b=>(by rw [Mr (by show op≠1;omega) (by show op≠2;omega)];exact iu h317.1 h317.2);obtain ⟨a,b,c,ta,hak,hbc,ea,ec,hl2⟩:∃a b c:FV,TV a/\a.k=kd/\CV op a b=CV op a c/\inn.headD FV.z=a/\inn.getLastD FV.z=c/\∃t,inn++[FV.z]=a::b::t:=(by rcases h3 with ⟨h3,h4⟩|⟨h3,h4⟩;obtain ⟨a,rfl,ha⟩:=X_ (s2.trans h3);exact ⟨a,FV.z,a,v2 a zb',ha,sS _ _ h4 (by rw [ha];exact h1),rfl,rfl,[],rfl⟩;obtain ⟨a,b,rfl,ha,hb⟩:=HS (s2.trans h3);exact ⟨a,b,b,v2 a zb',ha,rfl,rfl,rfl,[FV.z],rfl⟩);obtain ⟨t,hl2⟩:=hl2;obtain ⟨z,hz,sz⟩:=sc2.app1 (P:=Tryz.prog) (bytes:=24) Eh (by decide) (by decide) FV.z (by omega);rw [hl2]at sz;obtain rfl:z=c_ (a::b::t):=sz.eq (by simp);have hd:Ct ⟨op,kd,ad,n,vk,vi,vf⟩ m rest inn=(match CV op a b with| .error e=>Fr m e| .ok v=>CI m (m.pc+1) (rest++[v]) m.mem):=(by rw [Vy (by show op<=17;omega),ea,ec,ht,hbc]<;>rfl);clear ea ec hl2 h3 sz;subst hak;repeat (refine g_ rfl rfl ?_ ?_<;>intro h<;>simp only [nc]at h<;>try omega)
    refine Aa hc2 (St.okC sc2) (Aa hz (G_ _) (Aa (A_ (a::b::t) (i:=0) (by simp)) rfl (BV (MJ (a::b::t) (i:=0) (by simp)) rfl (BI a) (Aa (A_ (a::b::t) (i:=1) (by simp)) rfl (BV (MJ (a::b::t) (i:=1) (by simp)) rfl (BI b) ?_)))));refine Aq (vs:=f_ (IG op a.k a b)++[.int .i64 (Dp op a.k b)]) (p86 h1 ta rfl) rfl (nQ _ _) ?_;rw [hd];by_cases h0:Dp op a.k b=0;rw [show CV op a b=.ok (D7 op a.k a b) from Ad h0,show IG op a.k a b=D7 op a.k a b from Ad h0,h0];obtain ⟨z,hz,sz⟩:=app1 (D7 op a.k a b);refine Aa (Al ..) rfl (Ax rfl (λh=>by cases h) (λ_=>?_));exact Aa hz (St.okC sz) (Dw (m:=CI m (m.pc+1) (rest++[D7 op a.k a b]) m.mem) sz rfl);rw [show CV op a b=.error (Dp op a.k b) from Ab h0];refine Aa (Al ..) rfl (Ax rfl (λ_=>Dw (m:=Fr m (Dp op a.k b)) hs rfl) (λh=>?_));simp at h;exact absurd h h0
  .rcases hT with ⟨h1,k,h2,h3⟩|⟨h1,h2,h3,h4⟩|⟨h1,h2,h3⟩|⟨h1,h2,q,h3,h4⟩
   .subst h1;obtain ⟨v,rfl,hv⟩:=X_ (s2.trans h2);obtain rfl:x=c_ [v]:=sx.eq (by simp);obtain ⟨q1,q2,q3⟩:=MO _ h3;simp only at q1 q2;obtain ⟨j,rfl⟩:∃j:Nat,ad=(j:Int):=⟨ad.toNat,by omega⟩;have hj:j<m.mem.length:=(by omega);rw [kI rfl];repeat (refine g_ rfl rfl ?_ ?_<;>intro h<;>simp only [nc]at h<;>try omega)
    exact Aa (Mz [v] (i:=0) (by simp)) (A9 BI _) (BV (LT [v] (i:=0) (by simp)) rfl (BI v) (Aa (A_ m.mem hj) rfl (Aa (Kw m.mem hj v) (G_ _) (Ea (Sd m.mem j v) (Dw (m:=CI m (m.pc+1) rest (m.mem.set j v)) sr rfl)))))
   .subst h1 h2 h3;obtain ⟨v,a,rfl,hv,ha⟩:∃v x,inn=[v,x]/\v.k=2/\(x.k=2\/x.k=3):=by rcases h4 with h4|h4;obtain ⟨v,x,e,h,h'⟩:=HS (s2.trans h4);exact ⟨v,x,e,h,.inl h'⟩;obtain ⟨v,x,e,h,h'⟩:=HS (s2.trans h4);exact ⟨v,x,e,h,.inr h'⟩
    obtain rfl:x=c_ [v,a]:=sx.eq (by simp);have hq:Ct ⟨19,kd,8,4,vk,vi,vf⟩ m rest [v,a]=if a.i<0\/4<=a.i then Fr m 6 else CI m (m.pc+1) rest (m.mem.set (8+a.i).toNat v):=XN (i:=⟨19,kd,8,4,vk,vi,vf⟩) (m:=m) (rest:=rest) (inn:=[v,a]) rfl
    (refine g_ rfl rfl ?_ ?_<;>intro h<;>simp only [nc]at h<;>try omega)
    (refine g_ rfl rfl ?_ ?_<;>intro h<;>simp only [nc]at h<;>try omega)
    (refine g_ rfl rfl ?_ ?_<;>intro h<;>simp only [nc]at h<;>try omega)
    (refine g_ rfl rfl ?_ ?_<;>intro h<;>simp only [nc]at h<;>try omega)
    (refine g_ rfl rfl ?_ ?_<;>intro h<;>simp only [nc]at h<;>try omega)
    refine Mi (l:=[v,a]) (j:=1) rfl (by simp) ?_
    (refine g_ rfl rfl ?_ ?_<;>intro h<;>simp only [nc]at h<;>try omega)
    rw [hq,Ad (.inl h)];exact Dw (m:=Fr m 6) hs rfl;have h0:=h;refine Mi (l:=[v,a]) (j:=1) rfl (by simp) ?_
    (refine g_ rfl rfl ?_ ?_<;>intro h<;>simp only [nc]at h<;>try omega)
    rw [hq,Ad (.inr h)];exact Dw (m:=Fr m 6) hs rfl;have hr':¬(a.i<0\/4<=a.i):=(by have h0:0<=a.i:=h0;have h4:a.i<4:=h;omega);rw [hq,Ab hr'];obtain ⟨j,hj0⟩:∃j:Nat,8+a.i=(j:Int):=⟨(8+a.i).toNat,by omega⟩;have hj:j<m.mem.length:=(by omega);have hjn:(8+a.i).toNat=j:=(by omega);rw [hjn];refine Mi (l:=[v,a]) (j:=1) rfl (by simp) (Aa (o_ (x:=8) (y:=a.i) (by omega) (by omega)) rfl ?_);rw [hj0];exact Aa (Mz [v,a] (i:=0) (by simp)) (A9 BI _) (BV (LT [v,a] (i:=0) (by simp)) rfl (BI v) (Aa (A_ m.mem hj) rfl (Aa (Kw m.mem hj v) (G_ _) (Ea (Sd m.mem j v) (Dw (m:=CI m (m.pc+1) rest (m.mem.set j v)) sr rfl)))))
   .subst h1;rw [←s2]at h2;have hne:inn≠[]:=λe=>by rw [e]at h2;rcases h2 with ⟨_,_,h⟩|⟨_,_,h⟩|⟨_,_,h⟩<;>cases h
    obtain rfl:x=c_ inn:=sx.eq hne;obtain rfl:c2=c_ inn:=sc2.eq hne;have hr2: -9223372036854775808<=(inn.tail.headD FV.z).i/\(inn.tail.headD FV.z).i<=9223372036854775807:=by
     match inn,v2 with
     |[],_=>show (-9223372036854775808:Int)<=0/\(0:Int)<=9223372036854775807;omega
     |[a],_=>show (-9223372036854775808:Int)<=0/\(0:Int)<=9223372036854775807;omega
     |a::b::t,v2=>exact (v2 b (zc' _ zb')).1.i64
    have hc:=zj hm hn h2 (HJ _).symm hr2;have hemp:(XOp.emp).run Tryz.prog [c_ inn]=some (.bool false):=by
     cases inn with
     |nil=>exact absurd rfl hne
     |cons a b=>rfl
    rw [oS rfl];repeat (refine g_ rfl rfl ?_ ?_<;>intro h<;>simp only [nc]at h<;>try omega)
    refine Aa hemp rfl (Ax (t:=false) rfl (λh=>by cases h) (λ_=>Aa hc2 (G_ _) (BL hc (by show Ak [c_ m.mem,.int .i64 kd,.int .i64 ad,c_ inn,.int .i64 m.now]=true;simp only [Ak,okC,G_]) ⟨?_,trivial⟩)));rintro ws rfl;refine Ea (qO (hlen.trans (dK h2 hm _ hr2.2 hn).1.len.symm)) (Dw (m:=CI m (m.pc+1) rest (z_ m.now kd m.mem (decide ((inn.headD FV.z).i≠0)) (inn.tail.headD FV.z).i)) sr rfl)
   .subst h1;obtain ⟨a,rfl,ha⟩:=X_ (s2.trans h2);obtain rfl:x=c_ [a]:=sx.eq (by simp);rw [gk rfl];repeat (refine g_ rfl rfl ?_ ?_<;>intro h<;>simp only [nc]at h<;>try omega)
    refine Mi (l:=[a]) (j:=0) rfl (by simp) ?_
    (refine g_ rfl rfl ?_ ?_<;>intro h<;>simp only [nc]at h<;>try omega)
    refine Dw (m:=CI m (if a.i=0 then ad else m.pc+1) rest m.mem) sr ?_;show _=KR (CI m (if a.i=0 then ad else m.pc+1) rest m.mem) r;rw [Ad (show a.i=0 from h)];rfl;refine Dw (m:=CI m (if a.i=0 then ad else m.pc+1) rest m.mem) sr ?_;show _=KR (CI m (if a.i=0 then ad else m.pc+1) rest m.mem) r;rw [Ab (show ¬a.i=0 from h)];rfl
  .subst h20;rw [gO rfl];repeat (refine g_ rfl rfl ?_ ?_<;>intro h<;>simp only [nc]at h<;>try omega)
   exact Dw (m:=CI m ad rest m.mem) sr rfl
  .subst h23;rw [ni rfl];repeat (refine g_ rfl rfl ?_ ?_<;>intro h<;>simp only [nc]at h<;>try omega)
   exact Dw (m:=⟨m.pc,rest,m.mem,m.used+1,m.now,true,m.err⟩) sr rfl
 have A:∀z,AC Tryz.prog (QF (NJ (Ct i m rest inn))) [] ((Y.puts 64 (h_ l::KR m s)).put 72 z) Be:=λz=>Aa hc1 (St.okC sc1) (key z);have B:∀z,AC Tryz.prog (QF (NJ (Ct i m rest inn))) [] ((Y.puts 64 (h_ l::KR m s)).put 72 z) (.lt (.app 3 24) [.vsl 0 3 [],.sym 66] 73 none (.both Jw Jw)):=λz=>Aa hc1 (St.okC sc1) ⟨key z,key z⟩;have A:=A (.bool (@decide (Ci .neq m.err 0) (Classical.propDecidable (Ci .neq m.err 0))));have B:=B (.bool (@decide (Ci .neq m.err 0) (Classical.propDecidable (Ci .neq m.err 0))));exact ⟨⟨⟨B,⟨⟨A,A⟩,⟨A,A⟩⟩⟩,⟨⟨⟨A,A⟩,A⟩,⟨⟨A,A⟩,A⟩⟩⟩,⟨⟨⟨B,⟨⟨A,A⟩,⟨A,A⟩⟩⟩,⟨⟨⟨A,A⟩,A⟩,⟨⟨A,A⟩,A⟩⟩⟩,⟨⟨⟨⟨A,A⟩,A⟩,⟨⟨⟨A,A⟩,A⟩,⟨A,A⟩⟩⟩,⟨⟨⟨A,A⟩,A⟩,⟨⟨⟨A,A⟩,A⟩,⟨A,A⟩⟩⟩⟩⟩⟩
def xj:VC:=⟨⟨[],[]⟩,[],[],0,true,[]⟩
def mC:VT:=Iq 64 9 65 (.done (J 3))<|Iq 64 10 66 (.done (J 3))<|Iq 64 11 67 (.done (J 2))<|Iq 64 12 68 (.done (J 2))<|.done (J 4)
def uz:VC:=⟨⟨[],[]⟩,[(112,[none])],[],0,true,[]⟩
def ow:VT:=Iq 66 2 73 (Li Z7 [68,65] 74<|.done (74))<|Iq 66 18 74 (Li Z7 [68,65] 75<|.done (75))<|Iq 66 3 75 (Li Qr [68,69] 76<|Li Zu [76,65] 77<|.done (77))<|Iq 66 19 76 (Li Qr [68,69] 77<|Li Zu [77,65] 78<|.done (78))<|Iq 66 22 77 (.call 112 [67] 78 [none]<|Li Qr [68,78] 79<|Li Zu [79,65] 80<|.done (80))<|Iq 66 20 78 (Li Qi [64] 79<|Li Z7 [68,79] 80<|.done (80))<|Iq 66 21 79 (Li Qi [64] 80<|Li Z7 [68,80] 81<|.done (81))<|Ψ
def pY:VC:=⟨⟨[],[]⟩,[(74,[none])],[],0,true,[]⟩
def lx:VT:=Iq 64 2 73 (Li Q5 [66,72] 74<|.done (74))<|Iq 64 18 74 (Li Q5 [66,72] 75<|.done (75))<|Iq 64 3 75 (Li Qr [66,67] 76<|Li Zt [76,72] 77<|.done (77))<|Iq 64 19 76 (Li Qr [66,67] 77<|Li Zt [77,72] 78<|.done (78))<|Iq 64 22 77 (.call 74 [65] 78 [none]<|Li Qr [66,78] 79<|Li Zt [79,72] 80<|.done (80))<|Iq 64 20 78 (Li Q5 [66,71] 79<|.done (79))<|Iq 64 21 79 (Li Q5 [66,71] 80<|.done (80))<|Ω
def tz:VC:=⟨⟨[],[]⟩,[(63,[none])],[],0,true,[]⟩
def qb:VT:=.call 63 [.agg (Ae 64 7)] 71 [none]<|Li Q6 [71] 72<|.done (72)
def xS:VC:=⟨⟨[],[]⟩,[(65,[none])],[],0,true,[]⟩
def ol:VT:=.call 65 [71,72,.agg (Ae 64 7)] 73 [none]<|.done (73)
def YH:VC:=⟨⟨[],[]⟩,[(62,[none])],[(0,[⟨[(8,.slx 0 0 0),(0,64),(1,.fn 62 []),(7,65)],[],0,1,[],[],[]⟩])],0,true,[]⟩
def dp:VT:=Li Qi [64] 65<|.loop 66 0 [J 0] (.cons 1 (It Q5 [66,65] 67 (Li Qk [64,66] 68<|.lt Qy [68] 69 (some 7)<|.call 62 [.agg (Ae 69 7)] 76 [none]<|.ite 76 (.done (66))<|Li Q3 [66,J 1] 77<|.again 0 0 [77])<|.done (.int .i64 (-1))) .nil)
def aH:VC:=⟨⟨[],[]⟩,[(64,[none])],[(0,[⟨[(8,.slx 0 0 0),(0,64),(1,.fn 64 [.vptr [65],.vptr [66]]),(7,67)],[],0,1,[],[],[]⟩])],0,true,[]⟩
def nF:VT:=Li Qi [64] 67<|.loop 68 0 [J 0] (.cons 1 (It Q5 [68,67] 69 (Li Qk [64,68] 70<|.lt Qy [70] 71 (some 7)<|.call 64 [.agg (Ae 71 7),.vptr [65],.vptr [66]] 78 [none]<|.ite 78 (.done (68))<|Li Q3 [68,J 1] 79<|.again 0 0 [79])<|.done (.int .i64 (-1))) .nil)
def vZ:VC:=⟨⟨[],[]⟩,[(104,[none])],[],0,true,[]⟩
def jQ:VT:=.call 104 [64,.fn 62 []] 65 [none]<|Li Q4 [65,J 0] 66<|.done (66)
def zW:VC:=⟨⟨[],[]⟩,[(104,[none])],[],0,true,[]⟩
def lG:VT:=.call 104 [64,.fn 64 [.vptr [65],.vptr [66]]] 67 [none]<|Li Q4 [67,J 0] 68<|.done (68)
def zE:VC:=⟨⟨[],[]⟩,[],[],0,true,[]⟩
def fu:VT:=Iq 64 1 71 (Dn [J 1])<|Iq 64 2 72 (Dn [J 1])<|Iq 64 3 73 (.done (.tup [J 1,J 1]))<|Iq 64 17 74 (.done (.tup [J 1,J 1]))<|Iq 64 15 75 (.done (.tup [J 1,J 1]))<|Iq 64 16 76 (.done (.tup [J 1,J 1]))<|Iq 64 18 77 (.done (.tup [J 1,J 0]))<|Iq 64 21 78 (.done (.tup [J 1,J 0]))<|Iq 64 19 79 (.done (.tup [J 2,J 0]))<|Iq 64 22 80 (.done (.tup [67,J 0]))<|Iq 64 20 81 (Dn [J 0])<|Iq 64 23 82 (Dn [J 0])<|.done (.tup [J 2,J 1])
def pL:VC:=⟨⟨[],[]⟩,[],[],0,true,[]⟩
def cg:VT:=Iq 64 23 72 (.done (.nsl))<|Iq 64 20 73 (.done (.vsl 1 1 [66]))<|Iq 64 21 74 (Li Q3 [71,J 1] 75<|.done (.vsl 2 1 [66,75]))<|Li Q3 [71,J 1] 75<|.done (.vsl 1 1 [75])
def GI.May (g:GI):Prop:=D6 g.op g.kd g.ad g.n g.vk g.vi g.vf
instance (g:GI):Decidable g.May:=by unfold GI.May;infer_instance
def MB (op kd ad n len cells:Int):Prop:=(op=2\/op=18->ad<cells)/\(op=3\/op=19->ad+n<=cells)/\(op=22->ad+IK kd<=cells)/\(op=20\/op=21->ad<len)
instance (op kd ad n len cells:Int):Decidable (MB op kd ad n len cells):=by unfold MB;infer_instance
def GI.Plc (g:GI) (len:Nat) (cells:Int):Prop:=MB g.op g.kd g.ad g.n len cells
instance (g:GI) (len:Nat) (cells:Int):Decidable (g.Plc len cells):=by unfold GI.Plc;infer_instance
def MG {op kd ad n vk vi:Int} {vf:Nat} (h:D6 op kd ad n vk vi vf):1<=op/\op<=23/\0<=ad/\ad<=399/\0<=n/\n<=8/\(op=22->6<=kd/\kd<=12):=by unfold D6 at h;rcases h with h|⟨h0,_,_,_,h⟩;omega;omega
def SO (k:Int):Int:=if k=9\/k=10 then 3 else if k=11\/k=12 then 2 else 4
def Iy_ (k:Int):AJ 112 [.int .i64 k] (.int .i64 (SO k)):=by
 refine Bx [none] [.int .i64 k] xj mC rfl rfl rfl rfl rfl (by kernel_rfl) λY hf hg=>?_;unfold mC;repeat' (refine g_ rfl rfl ?_ ?_<;>intro h<;>simp only [nc]at h<;>try omega)
 all_goals exact Ap (iK (by unfold SO;(repeat' split)<;>omega))
def i4 {k:Int} (h:6<=k/\k<=12):SO k=IK k:=by
 unfold SO IK
 (repeat' split)<;>omega
def lY (k:Int):0<=IK k/\IK k<=4:=by
 unfold IK
 (repeat' split)<;>omega
def Fp {l:List GI} {x:AV} (h:SlV k_ 7 l x):(XOp.len 30).run Tryz.prog [x]=some (.int .i64 (l.length:Int)):=h.len Tryz.underlying30
def xk {l:List GI} {x:AV} (hx:SlV k_ 7 l x) (cells:Int) {g:GI} (hm:g.May):AJ 65 [x,.int .i64 cells,.agg (k_ g)] (.bool (decide (¬g.Plc l.length cells))):=by
 obtain ⟨op,kd,ad,n,vk,vi,vf⟩:=g;have hb:1<=op/\op<=23/\0<=ad/\ad<=399/\0<=n/\n<=8/\(op=22->6<=kd/\kd<=12):=MG hm;have okx:=hx.ok BM;refine Jb (sh:=[none,none,some 7]) (ls:=[x,.int .i64 cells]++k_ ⟨op,kd,ad,n,vk,vi,vf⟩) (c:=uz) (n:=300) (t:=ow) mo ov (by rcases hx with rfl|⟨_,rfl⟩<;>rfl) (by simp only [Bg,B2,k_,Ak,okC,okx]) rfl (λY _=>Cn _) rfl (by kernel_rfl) λY hf hg=>?_;show AC _ (· =AV.bool (decide (¬MB op kd ad n l.length cells))) _ _ _;have hw:=lY kd;have hwb:=λh22:op=22=>i4 (k:=kd) (hb.2.2.2.2.2.2 h22);unfold ow MB;repeat' first|(refine g_ rfl rfl ?_ ?_<;>intro h<;>simp only [nc]at h<;>try omega)|(refine Ap (bF ?_);(first|omega|(dsimp only;omega)))|(refine Aa (A8 ..) rfl (Ap (bE ?_));(first|omega|(dsimp only;omega)))|(refine Aa (Bc ..) rfl (Ap (bE ?_));(first|omega|(dsimp only;omega)))|refine Aa (Fp hx) rfl ?_|refine Aq (Iy_ kd) rfl rfl ?_|refine Aa (o_ (by first|omega|(dsimp only;omega)) (by first|omega|(dsimp only;omega))) rfl ?_
def yK {g:GI} (hm:g.May) (len:Nat) (cells:Int):AJ 78 [.agg (k_ g),.int .i64 (len:Int),.int .i64 cells] (.bool (decide (g.Plc len cells))):=by
 obtain ⟨op,kd,ad,n,vk,vi,vf⟩:=g;have hb:1<=op/\op<=23/\0<=ad/\ad<=399/\0<=n/\n<=8/\(op=22->6<=kd/\kd<=12):=MG hm;refine Bx [some 7,none,none] (k_ ⟨op,kd,ad,n,vk,vi,vf⟩++[.int .i64 (len:Int),.int .i64 cells]) pY lx rfl rfl rfl rfl rfl (by kernel_rfl) λY hf hg=>?_;show AC _ (· =AV.bool (decide (MB op kd ad n len cells))) _ _ _;have hw:=lY kd;have hwb:=λh22:op=22=>i4 (k:=kd) (hb.2.2.2.2.2.2 h22);unfold lx MB;repeat' first|(refine g_ rfl rfl ?_ ?_<;>intro h<;>simp only [nc]at h<;>try omega)|(refine Ap (bT ?_);(first|omega|(dsimp only;omega)))|(refine Aa (AX ..) rfl (Ap (bE ?_));(first|omega|(dsimp only;omega)))|(refine Aa (Bq ..) rfl (Ap (bE ?_));(first|omega|(dsimp only;omega)))|refine Aq (j8 kd) rfl rfl ?_|refine Aa (o_ (by first|omega|(dsimp only;omega)) (by first|omega|(dsimp only;omega))) rfl ?_
def xL (g:GI):AJ 62 [.agg (k_ g)] (.bool (!decide g.May)):=by refine Bx [some 7] (k_ g) tz qb rfl (BM _) rfl rfl rfl (by kernel_rfl) λY hf hg=>?_;exact Aq (yN g) rfl rfl (Aa (ET ..) rfl (Ap rfl))
def sT {l:List GI} {x:AV} (hx:SlV k_ 7 l x) (cells:Int) {g:GI} (hm:g.May):AJ 64 [.agg (k_ g),.vptr [x],.vptr [.int .i64 cells]] (.bool (decide (¬g.Plc l.length cells))):=by have okx:=hx.ok BM;refine Fb (args':=[.agg (Ae 64 7),.vptr [.sym 71],.vptr [.sym 72]]) (ls:=k_ g++[x,.int .i64 cells]) (c:=xS) (n:=300) (m:=73) (t:=ol) mo ov (by simp only [Gn,Sx.okI,Ak,okC,okx,k_]) rfl (by simp only [Bg,B2,k_,Ak,okC,okx]) rfl (λY hf=>rfl) (λY _=>Cn _) rfl (by kernel_rfl) λY hf hg=>?_;unfold ol;exact Aq (xk hx cells hm) rfl (by simp only [Ak,okC,Sx.okI,okx,k_]) (Ap rfl)
theorem R_:∀{a:AV},okC a=true->Sx.okI a=true
 | .bool _,_| .int _ _,_| .flt _ _,_| .nan _,_| .str _,_| .nptr,_| .nsl,_| .nmap,_| .nfn,_| .nif,_=>rfl
 | .vptr _,h| .vsl _ _ _,h| .fn _ _,h| .iface _ _,h=>h
def KO (p:GI->Bool) (l:List GI):Int:=match l.findIdx? p with
 |some i=>(i:Int)
 |none=> -1
def dw (p:GI->Bool) (l:List GI):0<=KO p l↔∃g∈l,p g=true:=by
 unfold KO;cases h:l.findIdx? p with
 |none=>rw [List.findIdx?_eq_none_iff]at h;constructor;intro h;have h:(0:Int)<= -1:=h;omega;rintro ⟨g,hg,hp⟩;rw [h g hg]at hp;cases hp
 |some i=>rw [List.findIdx?_eq_some_iff_getElem]at h;obtain ⟨hi,hp,_⟩:=h;exact ⟨λ_=>⟨l[i],ze' hi,hp⟩,λ_=>by show (0:Int)<=(i:Int);omega⟩
def nV {p:GI->Bool} {l:List GI} {i:Nat} (hi:i<l.length) (h0:∀j (h:j<l.length),j<i->p l[j]=false) (h1:p l[i]=true):KO p l=i:=by have:l.findIdx? p=some i:=List.findIdx?_eq_some_iff_getElem.2 ⟨hi,h1,λj hj=>by rw [h0 j (by omega) hj];decide⟩;unfold KO;rw [this]
def lC {p:GI->Bool} {l:List GI} (h0:∀j (h:j<l.length),p l[j]=false):KO p l= -1:=by
 have:l.findIdx? p=none:=List.findIdx?_eq_none_iff.2 λg hg=>by obtain ⟨j,hj,rfl⟩:=List.mem_iff_getElem.1 hg;exact h0 j hj
 unfold KO;rw [this]
def IF {l:List GI} {x:AV} (hx:SlV k_ 7 l x) {i:Nat} (h:i<l.length):(XOp.iaddr 30).run Tryz.prog [x,.int .i64 (i:Int)]=some (.vptr (Ay k_ (l.drop i))):=hx.ia (e:=68) Tryz.underlying30 (ti:=(Tryz.prog.info? 68).get!) (by kernel_rfl) (by kernel_rfl) Jj h .i64
def JT {l:List GI} {i:Nat} (h:i<l.length):(XOp.load 68).run Tryz.prog [.vptr (Ay k_ (l.drop i))]=some (.agg (k_ l[i])):=Bz (ti:=(Tryz.prog.info? 68).get!) Tryz.underlying68 rfl (by kernel_rfl) (by kernel_rfl) Jj h
def J8 (l:List GI) (i:Nat):okC (.vptr (Ay k_ (l.drop i)))=true:=A9 BM _
def I1 {l:List GI} {x:AV} (hx:SlV k_ 7 l x) (hl:l.length<=1000000):AJ 104 [x,.fn 62 []] (.int .i64 (KO (λg=> !decide g.May) l)):=by
 have okx:=hx.ok BM;refine Fb (args':=[.sym 64,.fn 62 []]) (ls:=[x]) (c:=YH) (n:=300) (m:=65) (t:=dp) mo ov (by simp only [Gn,R_ okx,Sx.okI,Ak]) rfl (by simp only [Ak,okx]) rfl (λY hf=>rfl) (λY _=>Cn _) rfl (by kernel_rfl) λY hf hg=>?_;unfold dp;refine Aa (Fp hx) rfl ?_;refine Dv (ι:=Nat) (λi=>[.int .i64 (i:Int)]) (λi=>i<=l.length/\∀j (h:j<l.length),j<i->(!decide (l[j].May))=false) (λi=>l.length-i) 0 ⟨zd' _,λj _ h=>by omega⟩ rfl (λ_ _=>rfl) (λi j _ _ h=>?_) (λi hi=>?_)
 .have h:=(List.cons.inj h).1;injection h with _ h
  omega
 obtain ⟨hi,h0⟩:=hi;refine Aa (AX ..) rfl (Ax rfl (λhlt=>?_) (λhlt=>Ap (congrArg (AV.int .i64) (lC λj hj=>h0 j hj ?_).symm)));have hlt:(i:Int)<(l.length:Int):=dT hlt;have hlt:i<l.length:=(by omega);refine Aa (IF hx hlt) (J8 l i) (BV (JT hlt) rfl (BM _) (Aq (xL l[i]) rfl rfl (Ax rfl (λhm=>Ap (congrArg (AV.int .i64) (nV hlt h0 hm).symm)) (λhm=>Aa (AM ..) rfl (Cb rfl ⟨i+1,⟨hlt,λj hj hji=>?_⟩,?_,?_⟩)))));by_cases e:j=i;subst e;exact hm;exact h0 j hj (by omega);show [AV.int .i64 (IntKind.i64.wrap ((i:Int)+1))]=[AV.int .i64 ((i+1:Nat):Int)];rw [CS (by omega) (by omega)];rfl;omega;have hlt:¬(i:Int)<(l.length:Int):=dF hlt;omega
def I2 {l:List GI} {x:AV} (hx:SlV k_ 7 l x) (hl:l.length<=1000000) (hm:∀g∈l,g.May) (cells:Int):AJ 104 [x,.fn 64 [.vptr [x],.vptr [.int .i64 cells]]] (.int .i64 (KO (λg=>decide (¬g.Plc l.length cells)) l)):=by
 have okx:=hx.ok BM;refine Fb (args':=[.sym 64,.fn 64 [.vptr [.sym 65],.vptr [.sym 66]]]) (ls:=[x,x,.int .i64 cells]) (c:=aH) (n:=300) (m:=67) (t:=nF) mo ov (by simp only [Gn,R_ okx,Sx.okI,Ak,okC,okx]) rfl (by simp only [Ak,okC,okx]) rfl (λY hf=>rfl) (λY _=>Cn _) rfl (by kernel_rfl) λY hf hg=>?_;unfold nF;refine Aa (Fp hx) rfl ?_;refine Dv (ι:=Nat) (λi=>[.int .i64 (i:Int)]) (λi=>i<=l.length/\∀j (h:j<l.length),j<i->decide (¬(l[j].Plc l.length cells))=false) (λi=>l.length-i) 0 ⟨zd' _,λj _ h=>by omega⟩ rfl (λ_ _=>rfl) (λi j _ _ h=>?_) (λi hi=>?_)
 .have h:=(List.cons.inj h).1;injection h with _ h
  omega
 obtain ⟨hi,h0⟩:=hi;refine Aa (AX ..) rfl (Ax rfl (λhlt=>?_) (λhlt=>Ap (congrArg (AV.int .i64) (lC λj hj=>h0 j hj ?_).symm)));have hlt:(i:Int)<(l.length:Int):=dT hlt;have hlt:i<l.length:=(by omega);refine Aa (IF hx hlt) (J8 l i) (BV (JT hlt) rfl (BM _) (Aq (sT hx cells (hm _ (ze' hlt))) rfl (by simp only [Ak,okC,Sx.okI,okx,k_]) (Ax rfl (λhm=>Ap (congrArg (AV.int .i64) (nV hlt h0 hm).symm)) (λhm=>Aa (AM ..) rfl (Cb rfl ⟨i+1,⟨hlt,λj hj hji=>?_⟩,?_,?_⟩)))));by_cases e:j=i;subst e;exact hm;exact h0 j hj (by omega);show [AV.int .i64 (IntKind.i64.wrap ((i:Int)+1))]=[AV.int .i64 ((i+1:Nat):Int)];rw [CS (by omega) (by omega)];rfl;omega;have hlt:¬(i:Int)<(l.length:Int):=dF hlt;omega
def C1 {l:List GI} {x:AV} (hx:SlV k_ 7 l x) (hl:l.length<=1000000):AJ 61 [x,.fn 62 []] (.bool (decide (¬∀g∈l,g.May))):=by have okx:=hx.ok BM;refine Fb (args':=[.sym 64,.fn 62 []]) (ls:=[x]) (c:=vZ) (n:=300) (m:=65) (t:=jQ) mo ov (by simp only [Gn,R_ okx,Sx.okI,Ak]) rfl (by simp only [Ak,okx]) rfl (λY hf=>rfl) (λY _=>Cn _) rfl (by kernel_rfl) λY hf hg=>?_;unfold jQ;refine Aq (I1 hx hl) rfl (by simp only [Ak,okC,R_,okx]) (Aa (A8 ..) rfl (Ap (bE ((dw _ l).trans ?_))));constructor;rintro ⟨g,hg,h⟩ ha;simp [ha g hg]at h;intro h;apply Classical.byContradiction;intro hn;exact h λg hg=>Classical.byContradiction λhm=>hn ⟨g,hg,by simp [hm]⟩
def C2 {l:List GI} {x:AV} (hx:SlV k_ 7 l x) (hl:l.length<=1000000) (hm:∀g∈l,g.May) (cells:Int):AJ 61 [x,.fn 64 [.vptr [x],.vptr [.int .i64 cells]]] (.bool (decide (¬∀g∈l,g.Plc l.length cells))):=by have okx:=hx.ok BM;refine Fb (args':=[.sym 64,.fn 64 [.vptr [.sym 65],.vptr [.sym 66]]]) (ls:=[x,x,.int .i64 cells]) (c:=zW) (n:=300) (m:=67) (t:=lG) mo ov (by simp only [Gn,R_ okx,Sx.okI,Ak,okC,okx]) rfl (by simp only [Ak,okC,okx]) rfl (λY hf=>rfl) (λY _=>Cn _) rfl (by kernel_rfl) λY hf hg=>?_;unfold lG;refine Aq (I2 hx hl hm cells) rfl (by simp only [Ak,okC,R_,okx]) (Aa (A8 ..) rfl (Ap (bE ((dw _ l).trans ?_))));constructor;rintro ⟨g,hg,h⟩ ha;simp [ha g hg]at h;intro h;apply Classical.byContradiction;intro hn;exact h λg hg=>Classical.byContradiction λhm=>hn ⟨g,hg,by simp [hm]⟩
def t_ (g:GI) (a:Nat):List Nat:=if g.op=23 then []else if g.op=20 then [g.ad.toNat]else if g.op=21 then [g.ad.toNat,a+1]else [a+1]
def HI (a:Nat):List AV:=[.int .i64 (a:Int)]
def yF (a:Nat):(HI a).length=1:=rfl
theorem Vh (a:Nat):Ak (HI a)=true:=rfl
def tq {g:GI} (hm:g.May):AJ 113 [.agg (k_ g)] (.tup [.int .i64 (d_ g:Int),.int .i64 (u_ g.op)]):=by
 obtain ⟨op,kd,ad,n,vk,vi,vf⟩:=g;have hb:1<=op/\op<=23/\0<=ad/\ad<=399/\0<=n/\n<=8/\(op=22->6<=kd/\kd<=12):=MG hm;refine Bx [some 7] (k_ ⟨op,kd,ad,n,vk,vi,vf⟩) zE fu rfl (BM _) rfl rfl rfl (by kernel_rfl) λY hf hg=>?_;unfold fu;repeat' (refine g_ rfl rfl ?_ ?_<;>intro h<;>simp only [nc]at h<;>try omega)
 all_goals exact Ap (cr (by unfold d_;simp only;(repeat' split)<;>omega) (by unfold u_;simp only;split<;>omega))
def wN {g:GI} (hm:g.May) {a:Nat} (ha:a<=1000000):AJ 114 [.agg (k_ g),.int .i64 (a:Int)] (Cv HI 1 (t_ g a)):=by
 obtain ⟨op,kd,ad,n,vk,vi,vf⟩:=g;have hb:1<=op/\op<=23/\0<=ad/\ad<=399/\0<=n/\n<=8/\(op=22->6<=kd/\kd<=12):=MG hm;have had:((ad.toNat:Nat):Int)=ad:=Int.toNat_of_nonneg (by omega);have e1:IntKind.i64.wrap ((a:Int)+1)=((a+1:Nat):Int):=by rw [CS (by omega) (by omega)];rfl
 refine Bx [some 7,none] (k_ ⟨op,kd,ad,n,vk,vi,vf⟩++[.int .i64 (a:Int)]) pL cg rfl rfl (L6 (Uo Vh _)) rfl rfl (by kernel_rfl) λY hf hg=>?_;unfold cg;repeat' (refine g_ rfl rfl ?_ ?_<;>intro h<;>simp only [nc]at h<;>try omega)
 refine Ap ?_;rw [show t_ ⟨op,kd,ad,n,vk,vi,vf⟩ a=[] from Ad h];rfl;refine Ap ?_;rw [show t_ ⟨op,kd,ad,n,vk,vi,vf⟩ a=[ad.toNat] from by unfold t_;rw [Ab (by assumption),Ad h]];show AV.vsl 1 1 [.int .i64 ad]=.vsl 1 1 [.int .i64 (ad.toNat:Int)];rw [had];refine Aa (AM ..) rfl (Ap ?_);rw [show t_ ⟨op,kd,ad,n,vk,vi,vf⟩ a=[ad.toNat,a+1] from by unfold t_;rw [Ab (by assumption),Ab (by assumption),Ad h]];show AV.vsl 2 1 [.int .i64 ad,.int .i64 (IntKind.i64.wrap ((a:Int)+1))]=.vsl 2 1 [.int .i64 (ad.toNat:Int),.int .i64 ((a+1:Nat):Int)];rw [had,e1];refine Aa (AM ..) rfl (Ap ?_);rw [show t_ ⟨op,kd,ad,n,vk,vi,vf⟩ a=[a+1] from by unfold t_;rw [Ab (by assumption),Ab (by assumption),Ab h]];show AV.vsl 1 1 [.int .i64 (IntKind.i64.wrap ((a:Int)+1))]=.vsl 1 1 [.int .i64 ((a+1:Nat):Int)];rw [e1]
def wF:VC:=⟨⟨[],[]⟩,[(113,[none,none]),(114,[none])],[(0,[⟨[(4,.map 0),(3,.slx 0 0 0),(5,.map 1),(0,64),(6,.slx 2 2 1),(2,.slx 2 0 0)],[],3,5,[⟨2,2,1,6,none⟩],[(0,3),(1,4)],[]⟩]),(2,[⟨[(81,.slx 0 0 0),(10,.slx 1 0 0),(6,.slx 2 2 2),(79,.slx 3 0 0),(4,.map 0),(3,.slx 4 0 0),(5,.map 1),(0,64),(2,67),(80,.slx 5 0 0)],[],3,8,[⟨2,2,2,6,none⟩],[(0,6),(1,7)],[]⟩])],0,true,[]⟩
def fN:VT:=.loop 65 0 [.bool false,.vsl 1 2 [J 0,J 0],.bool false,.vsl 0 2 [],.vsl 0 2 []] (.cons 5 (Li (.len 177) [66] 70<|It Qb [70,J 0] 71 (Li (.len 177) [66] 72<|Li Qj [72,J 1] 73<|Li Q2 [66,73] 74<|.lt (.ldx 176 2 0) [66,74] 75 (some 2)<|Li (.len 177) [66] 77<|Li Qj [77,J 1] 78<|Li .tkx [66,66,78] 79<|It (.mlk 173) [68,.agg [75,76]] 80 (.again 0 0 [65,79,67,68,69])<|Li (.mpu 173) [68,.agg [75,76],.bool true] 81<|Li (.mlk 174) [69,75] 82<|Li Q3 [82,J 1] 83<|Li (.mput 174) [69,75,83] 84<|.ite 65 (Li Qk [64,75] 85<|.lt Qy [85] 86 (some 7)<|.call 113 [.agg (Ae 86 7)] 93 [none,none]<|Li Zg [76,93] 95<|Li Qr [95,94] 96<|It Q5 [76,93] 97 (.again 0 0 [.bool true,79,.bool true,81,84])<|It Qb [96,J 16] 98 (.again 0 0 [.bool true,79,.bool true,81,84])<|Li Qk [64,75] 99<|.lt Qy [99] 100 (some 7)<|.call 114 [.agg (Ae 100 7),75] 107 [none]<|Li Qf [107] 108<|.loop 109 0 [J 0,96,79,107,.bool true,108,81,84] (.cons 8 (It Q5 [109,114] 117 (Li (.iaddr 74) [112,109] 118<|Li Qn [118] 119<|Li Za [111,.agg [119,110]] 120<|Li Q3 [109,J 1] 121<|.again 1 0 ([121,110,120]++Ae 112 5))<|.again 0 0 [113,111,67,115,116]) .nil))<|Li (.mlk 174) [84,75] 85<|Li Qb [85,J 1] 86<|Li Qk [64,75] 87<|.lt Qy [87] 88 (some 7)<|.call 113 [.agg (Ae 88 7)] 95 [none,none]<|Li Zg [76,95] 97<|Li Qr [97,96] 98<|It Q5 [76,95] 99 (.again 0 0 [86,79,.bool true,81,84])<|It Qb [98,J 16] 100 (.again 0 0 [86,79,.bool true,81,84])<|Li Qk [64,75] 101<|.lt Qy [101] 102 (some 7)<|.call 114 [.agg (Ae 102 7),75] 109 [none]<|Li Qf [109] 110<|.loop 111 0 [J 0,98,79,109,86,110,81,84] (.cons 8 (It Q5 [111,116] 119 (Li (.iaddr 74) [114,111] 120<|Li Qn [120] 121<|Li Za [113,.agg [121,112]] 122<|Li Q3 [111,J 1] 123<|.again 1 0 ([123,112,122]++Ae 114 5))<|.again 0 0 [115,113,67,117,118]) .nil))<|.done (.tup [67,65])) .nil)
def qc:VC:=⟨⟨[],[]⟩,[(61,[none]),(66,[none,none])],[],0,true,[]⟩
def lD:VT:=Li Qi [64] 66<|Iq 66 0 67 (.done (J 2))<|Li Qi [64] 68<|It Qb [68,J 400] 69 (.done (J 2))<|.call 61 [64,.fn 62 []] 70 [none]<|.ite 70 (.done (J 2))<|Li Qi [64] 71<|Li Qj [71,J 1] 72<|Li Qk [64,72] 73<|Li Z4 [73] 74<|Li Qn [74] 75<|It Q1 [75,J 23] 76 (.done (J 2))<|.call 61 [64,.fn 64 [.vptr [64],.vptr [65]]] 77 [none]<|.ite 77 (.done (J 6))<|.call 66 [64] 78 [none,none]<|.ite 78 (.done (J 12))<|.ite 79 (.done (J 4))<|.done (J 0)
theorem PD {P:Program} {α β:Type} (f:α->Sem β) (s:Sem α):Cs P (s >>= f)=match Cs P s with|some a=>Cs P (f a)|none=>none:=by
 induction s with
 |pure a=>rfl
 |program k ih=>exact ih P
 |mark m k ih=>exact ih
 |_=>rfl
def kQ {P:Program} {t:TypeId} {d:TypeDesc} (h:P.underlying t=some d):Cs P (underlying t)=some d:=by show Cs P (match P.underlying t with|some d=>pure d|none=>stuck "no such type")=_;rw [h];rfl
def uy {P:Program} {t:TypeId} {k:IntKind} (h:P.underlying t=some (.int k)) (d:Nat) (a b:Int):Cs P (Op.equalIn (d+1) t (.int .i64 a) (.int .i64 b))=some (a==b):=by unfold Op.equalIn;rw [PD,kQ h];rfl
def E1_ (a b c d:Int):OU Tryz.prog 176 (.agg [.int .i64 a,.int .i64 b]) (.agg [.int .i64 c,.int .i64 d])=some ((a==c)&&(b==d)):=by
 show Cs Tryz.prog (Op.equalIn (9999+1) 176 (.agg #[.int .i64 a,.int .i64 b]) (.agg #[.int .i64 c,.int .i64 d]))=_;unfold Op.equalIn;rw [PD,kQ Tryz.underlying176];have h1:Tryz.prog.stoodInHeld 176=false:=by kernel_rfl
 have q0:∀x y:Int,Cs Tryz.prog (part 3 #[.int .i64 x,.int .i64 y] 0)=some (.int .i64 x):=λx y=>by kernel_rfl
 have q1:∀x y:Int,Cs Tryz.prog (part 3 #[.int .i64 x,.int .i64 y] 1)=some (.int .i64 y):=λx y=>by kernel_rfl
 have e9:∀x y:Int,Cs Tryz.prog (Op.equalIn 9999 3 (.int .i64 x) (.int .i64 y))=some (x==y):=λx y=>uy Tryz.underlying3 9998 x y;have hp:Cs Tryz.prog program=some Tryz.prog:=rfl;have hpu:∀{α:Type} (x:α),Cs Tryz.prog (pure x)=some x:=λx=>rfl;simp only [PD,hp,h1,Bool.false_eq_true,if_false,List.forIn_toArray,List.forIn_cons,List.forIn_nil];simp [PD,q0,q1,e9,hpu];by_cases h:a=c;subst h;simp [PD,q0,q1,e9,hpu];by_cases h:b=d;subst h;simp [hpu];simp [hpu,h];simp [hpu,h]
def p_ (x:Nat×Nat):List AV:=[.int .i64 (x.1:Int),.int .i64 (x.2:Int)]
theorem Lj (x:Nat×Nat):(p_ x).length=2:=rfl
theorem Hu (x:Nat×Nat):Ak (p_ x)=true:=rfl
def DI (w:Nat×Nat):List AV:=[.iface 0 (.agg (p_ w)),.bool true]
def fm (a b:Int):Jn Tryz.prog 176 (.agg [.int .i64 a,.int .i64 b])=true:=by kernel_rfl
theorem jI (w q:Nat×Nat):OU Tryz.prog 176 (.agg (p_ w)) (.agg (p_ q))=some (decide (w=q)):=by refine (E1_ ..).trans (congrArg some ?_);rw [Bool.eq_iff_iff];simp only [Bool.and_eq_true,beq_iff_eq,AH,Prod.ext_iff];omega
theorem Yk (w:Nat×Nat):∀(s:List (Nat×Nat)) (i:Nat),(w∈s->∃j,Fz Tryz.prog 176 (.agg (p_ w)) (Eb (Ay DI s)) i=some (some (j,.agg (p_ w),.bool true)))/\(w∉s->Fz Tryz.prog 176 (.agg (p_ w)) (Eb (Ay DI s)) i=some none)
 |[],i=>⟨λh=>(za' h).elim,λ_=>rfl⟩
 |q::s,i=>by have e:Eb (Ay DI (q::s))=(.agg (p_ q),.bool true,0)::Eb (Ay DI s):=rfl;have ih:=Yk w s (i+1);rw [e];unfold Fz;rw [jI];by_cases h:w=q;subst h;rw [AD rfl];exact ⟨λ_=>⟨i,rfl⟩,λhn=>absurd (zb' ..) hn⟩;rw [A4 h];exact ⟨λhm=>ih.1 ((List.mem_cons.1 hm).resolve_left h),λhn=>ih.2 λhm=>hn (zc' _ hm)⟩
def WZ (s:List (Nat×Nat)) (w:Nat×Nat):(XOp.mlk 173).run Tryz.prog [Ba DI 2 s,.agg (p_ w)]=some (.bool (decide (w∈s))):=by show E6 Tryz.prog ((⟨AE,0,0⟩:AHeap).set 0 (.map (Eb (Ay DI s)) 0)) 173 (.map 0) (.agg (p_ w)) false=_;unfold E6;simp only [Tryz.underlying173,Tryz.underlying176];show Mw Tryz.prog _ 176 4 _ (.map 0) (.agg (p_ w)) false=_;unfold Mw;have hc:Jn Tryz.prog 176 (.agg (p_ w))=true:=fm _ _;have hg:((⟨AE,0,0⟩:AHeap).set 0 (.map (Eb (Ay DI s)) 0)).get 0=some (.map (Eb (Ay DI s)) 0):=rfl;obtain ⟨ti,hi,hz⟩:∃ti,Tryz.prog.info? 4=some ti/\ti.zero=some (.bool false):=⟨(Tryz.prog.info? 4).get!,by kernel_rfl,by kernel_rfl⟩;simp only [H9,hc,Bool.and_self,hi,hz,hg];by_cases h:w∈s;obtain ⟨j,hj⟩:=(Yk w s 0).1 h;simp only [hj,AD h];rfl;simp only [(Yk w s 0).2 h,A4 h];rfl
theorem np (w:Nat×Nat):∀(s:List (Nat×Nat)),w∉s->Lk Tryz.prog 176 (.agg (p_ w)) (.bool true) (Ay DI s)=some (Ay DI (s++[w]))
 |[],_=>rfl
 |q::s,h=>by have ih:=np w s λhm=>h (zc' _ hm);have hq:¬w=q:=λe=>h (e▸zb' ..);show Lk Tryz.prog 176 (.agg (p_ w)) (.bool true) (.iface 0 (.agg (p_ q))::.bool true::Ay DI s)=_;unfold Lk;rw [show KW (.iface 0 (.agg (p_ q)))=.agg (p_ q) from rfl,jI,A4 hq];simp only [ih];rfl
def cu (w:Nat×Nat):(DI w).length=2:=rfl
def tG (s:List (Nat×Nat)) (w:Nat×Nat) (h:w∉s):(XOp.mpu 173).run Tryz.prog [Ba DI 2 s,.agg (p_ w),.bool true]=some (Ba DI 2 (s++[w])):=by
 have hc:Jn Tryz.prog 176 (.agg (p_ w))=true:=fm _ _;have hl:(Ay DI s).length=s.length*2:=Ei cu s;have hl2:(Ay DI (s++[w])).length=(s.length+1)*2:=by rw [Ei cu];simp
 unfold XOp.run Ba;simp only [Tryz.underlying173,Tryz.underlying176,H9,hc,Bool.and_self,np w s h,BW,hl,hl2];have e1:Nat.beq (Nat.mul s.length 2) (s.length*2)=true:=zh' _;have e2:Nat.div ((s.length+1)*2) 2=(s++[w]).length:=by show (s.length+1)*2/2=_;rw [Nat.mul_div_cancel _ (by decide)];simp
 simp only [e1,e2,Nat.beq_refl];rfl
def Gi:List (Nat×Nat)->Nat->Nat->List (Nat×Nat)
 |[],a,c=>[(a,c)]
 |q::r,a,c=>if a=q.1 then (q.1,c)::r else q::Gi r a c
def BU:List (Nat×Nat)->Nat->Nat
 |[],_=>0
 |q::r,a=>if a=q.1 then q.2 else BU r a
theorem ZF (a c b:Nat):∀H:List (Nat×Nat),BU (Gi H a c) b=if b=a then c else BU H b
 |[]=>rfl
 |q::r=>by by_cases h:a=q.1;simp only [Gi,Ad h,BU];by_cases hb:b=q.1;rw [Ad hb,Ad (hb.trans h.symm)];rw [Ab hb,Ab (λe=>hb (e.trans h)),Ab hb];simp only [Gi,Ab h,BU,ZF a c b r];by_cases hb:b=q.1;rw [Ad hb,Ab (λe=>h (e.symm.trans hb)),Ad hb];rw [Ab hb,Ab hb]
theorem ll (a b:Nat):Kh (.int .i64) (.int .i64 (a:Int)) (.int .i64 (b:Int))=some (decide (a=b)):=by
 show some (Ja (a:Int) (b:Int))=_;rw [Lf]
 congr 1
 rw [Bool.eq_iff_iff];simp only [beq_iff_eq,AH];omega
theorem pg (a c:Nat):∀H:List (Nat×Nat),Lm (.int .i64) (.int .i64 (a:Int)) (.int .i64 (c:Int)) (Ay p_ H)=some (Ay p_ (Gi H a c))
 |[]=>rfl
 |q::r=>by show Lm (.int .i64) (.int .i64 (a:Int)) (.int .i64 (c:Int)) (.int .i64 (q.1:Int)::.int .i64 (q.2:Int)::Ay p_ r)=_;unfold Lm;rw [ll];by_cases h:a=q.1;rw [AD h];simp only [Gi,Ad h];rfl;rw [A4 h];simp only [pg a c r,Gi,Ab h];rfl
def Py (a:Nat):∀(H:List (Nat×Nat)) (i:Nat),Ff (.int .i64) (.int .i64 (a:Int)) (Eb (Ay p_ H)) i=some none/\BU H a=0\/∃j,Ff (.int .i64) (.int .i64 (a:Int)) (Eb (Ay p_ H)) i=some (some (j,.int .i64 (BU H a:Int)))
 |[],i=>.inl ⟨rfl,rfl⟩
 |q::r,i=>by have e:Eb (Ay p_ (q::r))=(.int .i64 (q.1:Int),.int .i64 (q.2:Int),0)::Eb (Ay p_ r):=rfl;rw [e];unfold Ff;rw [ll];by_cases h:a=q.1;rw [AD h];simp only [BU,Ad h];exact .inr ⟨i,rfl⟩;rw [A4 h];simp only [BU,Ab h];exact Py a r (i+1)
def cL (H:List (Nat×Nat)) (a:Nat):(XOp.mlk 174).run Tryz.prog [Ba p_ 2 H,.int .i64 (a:Int)]=some (.int .i64 (BU H a:Int)):=by show E6 Tryz.prog ((⟨AE,0,0⟩:AHeap).set 0 (.map (Eb (Ay p_ H)) 0)) 174 (.map 0) (.int .i64 (a:Int)) false=_;have hg:((⟨AE,0,0⟩:AHeap).set 0 (.map (Eb (Ay p_ H)) 0)).get 0=some (.map (Eb (Ay p_ H)) 0):=rfl;obtain ⟨ti,hi,hz⟩:∃ti,Tryz.prog.info? 3=some ti/\ti.zero=some (.int .i64 0):=⟨(Tryz.prog.info? 3).get!,by kernel_rfl,by kernel_rfl⟩;unfold E6;simp only [Tryz.underlying174,Tryz.underlying3,Il,hi,hz,hg];rcases Py a H 0 with ⟨h1,h2⟩|⟨j,h⟩;simp only [h1,h2];rfl;simp only [h];rfl
def rQ (H:List (Nat×Nat)) (a c:Nat):(XOp.mput 174).run Tryz.prog [Ba p_ 2 H,.int .i64 (a:Int),.int .i64 (c:Int)]=some (Ba p_ 2 (Gi H a c)):=by have hl:∀H:List (Nat×Nat),(Ay p_ H).length=H.length*2:=λH=>Ei Lj H;unfold XOp.run Ba XD;simp only [Tryz.underlying174,Tryz.underlying3,Il,pg,BW,hl];have e1:Nat.beq (Nat.mul H.length 2) (H.length*2)=true:=zh' _;have e2:Nat.div ((Gi H a c).length*2) 2=(Gi H a c).length:=Nat.mul_div_cancel _ (by decide);simp only [e1,e2,Nat.beq_refl,Bool.and_self]
theorem Yb (w:Nat×Nat):Ak (DI w)=true:=rfl
def D4 (s:List (Nat×Nat)):List (Nat×Nat):=s.foldl (λH w=>Gi H w.1 (BU H w.1+1)) []
def zJ (s:List (Nat×Nat)) (w:Nat×Nat):D4 (s++[w])=Gi (D4 s) w.1 (BU (D4 s) w.1+1):=by unfold D4;rw [List.foldl_append];rfl
def px (a:Nat):∀(s H:List (Nat×Nat)),BU (s.foldl (λH w=>Gi H w.1 (BU H w.1+1)) H) a=BU H a+C5 s a
 |[],H=>rfl
 |w::s,H=>by rw [List.foldl_cons,px a s,ZF];unfold C5;rw [List.countP_cons];by_cases h:a=w.1;subst h;simp;omega;have:¬((w.1==a)=true):=(by simpa using λe:w.1=a=>h e.symm);rw [Ab h,Ab this];omega
theorem fJ (s:List (Nat×Nat)) (a:Nat):BU (D4 s) a=C5 s a:=by have:=px a s [];unfold D4;rw [this];show 0+C5 s a=_;omega
def DN_ (s:List (Nat×Nat)) (a:Nat):C5 s a<=s.length:=List.countP_le_length
def XY (l:List (Nat×Nat)):(XOp.len 177).run Tryz.prog [Ba p_ 2 l]=some (.int .i64 (l.length:Int)):=(SlV.v (enc:=p_) (w:=2) l).len Tryz.underlying177
def Um {α:Type} {enc:α->List AV} {w:Nat} {l:List α} (h:l≠[]):Ba enc w l=Cv enc w l:=by
 cases l with
 |nil=>exact absurd rfl h
 |cons a r=>rfl
def xF {l:List (Nat×Nat)} {i:Nat} (hi:i<l.length):(XOp.inb).run Tryz.prog [Ba p_ 2 l,.int .i64 (i:Int)]=some (.int .i64 (i:Int)):=by
 have hne:l≠[]:=λe=>by rw [e]at hi;exact absurd hi (zi' _)
 rw [Um hne];exact OR hi .i64
def qr {l:List (Nat×Nat)} {i:Nat} (hi:i<l.length):(XOp.ldx 176 2 0).run Tryz.prog [Ba p_ 2 l,.int .i64 (i:Int)]=some (.agg (p_ l[i])):=by
 have hne:l≠[]:=λe=>by rw [e]at hi;exact absurd hi (zi' _)
 rw [Um hne];exact Fd' (ti:=(Tryz.prog.info? 176).get!) Tryz.underlying176 rfl (by kernel_rfl) (by kernel_rfl) Lj hi .i64
def tX (l:List (Nat×Nat)) {i:Nat} (hi:i<=l.length):(XOp.tkx).run Tryz.prog [Ba p_ 2 l,Ba p_ 2 l,.int .i64 (i:Int)]=some (Ba p_ 2 (l.take i)):=by
 have h:=JC (Ay p_ (l.take i)) (Ay p_ (l.drop i));rw [←ID,List.take_append_drop,Ei Lj]at h;have hlen:(l.take i).length=i:=by rw [List.length_take];omega
 rw [hlen]at h;have hb:(Nat.beq 2 2&&(Nat.ble i l.length&&Nat.ble i l.length))=true:=by simp [hi]
 show (match Nat.beq 2 2&&(Nat.ble i l.length&&Nat.ble i l.length)with
  |true=>match CJ (Nat.mul i 2) (Ay p_ l)with
   |some cs'=>some (AV.vsl i 2 cs')
   |none=>none
  |false=>none)=_
 rw [hb];have h':CJ (Nat.mul i 2) (Ay p_ l)=some (Ay p_ (l.take i)):=h;simp only [h'];unfold Ba;rw [hlen]
def V9 (l:List (Nat×Nat)) (b h:Nat) (hl:l.length<=1000000):(XOp.app 2 16).run Tryz.prog [Ba p_ 2 l,.agg [.int .i64 (b:Int),.int .i64 (h:Int)]]=some (Ba p_ 2 (l++[(b,h)])):=by
 have hn:Nat.div (Bs (p_ (b,h))) 2=1:=by rw [BW,Lj]
 show El 2 16 (Ba p_ 2 l) (Nat.div (Bs (p_ (b,h))) 2) (p_ (b,h))=_;rw [hn];have h2:(Ay p_ l).length=l.length*2:=Ei Lj l;unfold El Ba;have hd:decide ((p_ (b,h)).length=1*2)=true:=rfl;have c1:(Nat.ble (Nat.mul (Nat.add l.length 1) 16) 1073741824&&Nat.ble (Nat.add l.length 1) 1073741824&&Nat.blt 0 16)=true:=by have e:Nat.mul (Nat.add l.length 1) 16=(l.length+1)*16:=rfl;have e2:Nat.add l.length 1=l.length+1:=rfl;rw [e,e2,Nat.ble_eq_true_of_le (by omega),Nat.ble_eq_true_of_le (by omega)];rfl
 simp only [hd,h2,decide_true,and_self,c1,ID,Az];rfl
def m_ (l:List GI):WG where
 N:=l.length
 tk:=λa=>match l[a]? with
  |some g=>d_ g
  |none=>0
 lv:=λa=>match l[a]? with
  |some g=>(u_ g.op).toNat
  |none=>0
 goes:=λa=>match l[a]? with
  |some g=>t_ g a
  |none=>[]
structure DP (l:List GI) (cells:Int):Prop where
 n1:0<l.length
 n4:l.length<=400
 may:∀g∈l,g.May
 last:∀h:l.length-1<l.length,l[l.length-1].op=23
 plc:∀g∈l,g.Plc l.length cells
theorem DP.ok {l:List GI} {cells:Int} (h:DP l cells):(m_ l).Ok where
 pos:=h.n1
 inn:=λa ha b hb=>by have ha:a<l.length:=ha;have hb:b∈(match l[a]? with|some g=>t_ g a|none=>[]):=hb;rw [List.getElem?_eq_getElem ha]at hb;have hb:b∈t_ l[a] a:=hb;have hm:=MG (h.may _ (ze' ha));have hp:(l[a].op=20\/l[a].op=21->l[a].ad<(l.length:Int)):=(h.plc _ (ze' ha)).2.2.2;have hn:l[a].op≠23->a+1<l.length:=λhne=>(by apply Classical.byContradiction;intro hc;have:a=l.length-1:=(by omega);subst this;exact hne (h.last ha));show b<l.length;unfold t_ at hb;split at hb;cases hb;split at hb;rw [List.mem_singleton.1 hb];have:=hp (.inl (by assumption));omega;split at hb;rcases List.mem_cons.1 hb with e|hb;rw [e];have:=hp (.inr (by assumption));omega;rw [List.mem_singleton.1 hb];exact hn (by omega);rw [List.mem_singleton.1 hb];exact hn (by assumption)
 two:=λa=>by
  show (match l[a]? with|some g=>t_ g a|none=>[]).length<=2;split
  .unfold t_;repeat' split
   all_goals simp
  simp
def mX {l:List GI} {a:Nat} (h:a<l.length):(m_ l).tk a=d_ l[a]:=by show (match l[a]? with|some g=>d_ g|none=>0)=_;rw [List.getElem?_eq_getElem h]
def iT {l:List GI} {a:Nat} (h:a<l.length):((m_ l).lv a:Int)=u_ l[a].op:=by show (((match l[a]? with|some g=>(u_ g.op).toNat|none=>0):Nat):Int)=_;rw [List.getElem?_eq_getElem h];show (((u_ l[a].op).toNat:Nat):Int)=_;unfold u_;split<;>rfl
def lE {l:List GI} {a:Nat} (h:a<l.length):(m_ l).goes a=t_ l[a] a:=by show (match l[a]? with|some g=>t_ g a|none=>[])=_;rw [List.getElem?_eq_getElem h]
def rM {s s':List (Nat×Nat)} (h:Ba DI 2 s=Ba DI 2 s') (w:Nat×Nat):(w∈s)=(w∈s'):=by
 have a:=WZ s w;rw [h,WZ s' w]at a;injection a with a
 injection a with a
 exact propext (decide_eq_decide.1 a).symm
def yp {g:WG} {s s':List (Nat×Nat)} (h:∀w,(w∈s)=(w∈s')):AO g s=AO g s':=TK _ λi _=>by unfold MI;exact decide_eq_decide.2 (by rw [h])
def pR {l:List Nat} {i:Nat} (h:i<l.length):(XOp.iaddr 74).run Tryz.prog [Cv HI 1 l,.int .i64 (i:Int)]=some (.vptr (Ay HI (l.drop i))):=(SlV.of (enc:=HI) (w:=1) l).ia (e:=3) Tryz.underlying74 (ti:=(Tryz.prog.info? 3).get!) (by kernel_rfl) (by kernel_rfl) yF h .i64
def pA (l:List Nat) (i:Nat):okC (.vptr (Ay HI (l.drop i)))=true:=A9 Vh _
def u3 {l:List Nat} {i:Nat} (h:i<l.length):(XOp.load 3).run Tryz.prog [.vptr (Ay HI (l.drop i))]=some (.int .i64 (l[i]:Int)):=by rw [C7 h];exact Wx Tryz.underlying3 rfl _ _
open Classical in
def xr {l:List GI} {cells:Int} (hF:DP l cells) {x:AV} (hx:SlV k_ 7 l x):AJ 66 [x] (.tup [.bool (decide (m_ l).Full),.bool (decide (m_ l).Two)]):=by
 have okx:=hx.ok BM;have hg:=hF.ok;have n4:=hF.n4;refine Jb (sh:=[none]) (ls:=[x]) (c:=wF) (n:=300) (t:=fN) mo ov (by rcases hx with rfl|⟨_,rfl⟩<;>rfl) (by simp only [Ak,okx]) rfl (λY _=>Cn _) rfl (by kernel_rfl) λY hf hg'=>?_;unfold fN;refine Dv (ι:=List (Nat×Nat)×List (Nat×Nat)) (λp=>[.bool (Q_ p.1),Ba p_ 2 p.2,.bool (Hs (m_ l) p.1),Ba DI 2 p.1,Ba p_ 2 (D4 p.1)]) (λp=>BA (m_ l) p.1 p.2) (λp=>2*AO (m_ l) p.1+p.2.length) ([],[(0,0)]) (BA.begin hg) rfl
  (λp _=>by simp only [Ak,okC,DD Hu,DD Yb]) (λp q _ _ h=>?_) (λp hp=>?_)
 have h2:=(List.cons.inj (List.cons.inj h).2).1;have h4:=(List.cons.inj (List.cons.inj (List.cons.inj (List.cons.inj h).2).2).2).1;have e1:=yp (g:=m_ l) (rM h4);have e2:p.2.length=q.2.length:=(AV.vsl.inj h2).1;rw [e1,e2];obtain ⟨s,td⟩:=p;have hS:BA (m_ l) s td:=hp;refine Aa (XY td) rfl (Aa (Bc ..) rfl (Ax rfl (λh0=>?_) (λh0=>?_)))
 rotate_left
 have h0:¬(0:Int)<(td.length:Int):=dF h0;have hn:td=[]:=List.length_eq_zero_iff.1 (by omega);subst hn;refine Ap ?_;show AV.tup [.bool (Hs (m_ l) s),.bool (Q_ s)]=_;have e1:Hs (m_ l) s=decide (m_ l).Full:=Bool.eq_iff_iff.2 (hS.full.trans (decide_eq_true_iff).symm);have e2:Q_ s=decide (m_ l).Two:=Bool.eq_iff_iff.2 (hS.two.trans (decide_eq_true_iff).symm);rw [e1,e2];have h0:(0:Int)<(td.length:Int):=dT h0;have hlt:td.length-1<td.length:=by omega
 have hsz:=hS.lt;have hN:(m_ l).N=l.length:=rfl;rw [hN]at hsz;have em:IntKind.i64.wrap ((td.length:Int)-1)=((td.length-1:Nat):Int):=by rw [CS (by omega) (by omega)];omega
 obtain ⟨t,ht⟩:∃t,td.take (td.length-1)=t:=⟨_,rfl⟩;obtain ⟨w,hw⟩:∃w,td[td.length-1]=w:=⟨_,rfl⟩;have htd:td=t++[w]:=by rw [←ht,←hw];have:=(List.take_append_drop (td.length-1) td).symm;rw [C7 hlt,List.drop_of_length_le (by omega)]at this;exact this
 have hmem:∀v,v∈td↔v=w\/v∈t:=λv=>by rw [htd,List.mem_append,List.mem_singleton];exact Or.comm
 have hlen:t.length+1=td.length:=by rw [htd,List.length_append];rfl
 have hwt:=hS.rt w ((hmem w).2 (.inl rfl));have hw1:w.1<l.length:=hwt.2.1;have hw2:=hwt.2.2;have hgm:=hF.may _ (ze' hw1);have hmb:=MG hgm;have htk:=mX hw1;have hlv:=iT hw1;have hgo:=lE hw1;have htk8:d_ l[w.1]<=8:=by unfold d_;(repeat' split)<;>omega
 have hgv:0<=u_ l[w.1].op/\u_ l[w.1].op<=1:=by unfold u_;split<;>omega
 refine Aa (XY td) rfl (Aa (r:=.int .i64 ((td.length-1:Nat):Int)) (by rw [←em];exact Bn ..) rfl (Aa (xF hlt) rfl (BV (qr hlt) rfl (Hu _) ?_)));refine Aa (XY td) rfl (Aa (r:=.int .i64 ((td.length-1:Nat):Int)) (by rw [←em];exact Bn ..) rfl (Aa (tX td (i:=td.length-1) (by omega)) (DD Hu _) ?_));rw [ht,hw];refine Aa (WZ s w) rfl (Ax rfl (λhin=>?_) (λhin=>?_));have hin:w∈s:=dT hin;exact Cb rfl ⟨(s,t),hS.seen hmem hlen hin,rfl,by show 2*AO (m_ l) s+t.length<2*AO (m_ l) s+td.length;omega⟩;have hns:w∉s:=dF hin;have hcnt:C5 s w.1<=1000000:=by have h1:=DN_ s w.1;have h2:=BA.len_le hS;have hN:(m_ l).N=l.length:=rfl;omega
 have hfr:(m_ l).full w=true->BA (m_ l) (s++[w]) t/\2*AO (m_ l) (s++[w])+t.length<2*AO (m_ l) s+td.length:=λhfull=>by have hnx:(m_ l).nxt w=[]:=(by unfold WG.nxt;rw [Ad hfull]);exact BA.fresh hg hS (w:=w) (t':=t) (t2:=t) hmem hlen hns (λv=>by rw [hnx];simp) (by rw [hnx];rfl)
 have eh:IntKind.i64.wrap ((C5 s w.1:Int)+1)=((C5 s w.1+1:Nat):Int):=by rw [CS (by omega) (by omega)];rfl
 have hH:=zJ s w;rw [fJ]at hH;have m1:=cL (D4 s) w.1;rw [fJ]at m1;have m2:=rQ (D4 s) w.1 (C5 s w.1+1);rw [←hH]at m2;have m3:=cL (D4 (s++[w])) w.1;have c3:BU (D4 (s++[w])) w.1=C5 s w.1+1:=by rw [hH,ZF,Ad rfl]
 rw [c3]at m3;have st_eq:∀{u f:Bool},u=Q_ (s++[w])->f=Hs (m_ l) (s++[w])->[AV.bool u,Ba p_ 2 t,.bool f,Ba DI 2 (s++[w]),Ba p_ 2 (D4 (s++[w]))]=[AV.bool (Q_ (s++[w])),Ba p_ 2 t,.bool (Hs (m_ l) (s++[w])),Ba DI 2 (s++[w]),Ba p_ 2 (D4 (s++[w]))]:=λh1 h2=>by rw [h1,h2]
 refine Aa (tG s w hns) (DD Yb _) (Aa m1 rfl (Aa (r:=.int .i64 ((C5 s w.1+1:Nat):Int)) (by rw [←eh];exact AM ..) rfl (Aa m2 (DD Hu _) (Ax rfl (λhu=>?_) (λhu=>?_)))))
 case' refine_1=>
  have hu:Q_ s=true:=hu;have u:true=Q_ (s++[w]):=by rw [mw,hu];rfl
 case' refine_2=>
  have hu:Q_ s=false:=hu;have u:decide (1<((C5 s w.1+1:Nat):Int))=Q_ (s++[w]):=(by rw [mw,hu,Bool.false_or];exact decide_eq_decide.2 (by omega));refine Aa m3 rfl (Aa (Bc ..) rfl ?_)
 all_goals (
            refine Aa (IF hx hw1) (J8 l w.1) (BV (JT hw1) rfl (BM _) (Aq (tq hgm) rfl rfl ?_));refine Aa (r:=.int .i64 ((w.2:Int)-(d_ l[w.1]:Int))) (by rw [←CS (x:=(w.2:Int)-(d_ l[w.1]:Int)) (by omega) (by omega)];exact Bn ..) rfl ?_;refine Aa (r:=.int .i64 ((w.2:Int)-(d_ l[w.1]:Int)+u_ l[w.1].op)) (by rw [←CS (x:=(w.2:Int)-(d_ l[w.1]:Int)+u_ l[w.1].op) (by omega) (by omega)];exact AM ..) rfl ?_;refine Aa (AX ..) rfl (Ax rfl (λhlow=>?_) (λhlow=>?_));have hlow:(w.2:Int)<(d_ l[w.1]:Int):=dT hlow;have hfull:(m_ l).full w=true:=(by unfold WG.full;rw [htk,AD (by omega)];rfl);exact Cb rfl ⟨(s++[w],t),(hfr hfull).1,st_eq u (by rw [bi,hfull,Bool.or_true]),(hfr hfull).2⟩;have hlow:¬(w.2:Int)<(d_ l[w.1]:Int):=dF hlow;refine Aa (Bc ..) rfl (Ax rfl (λhhi=>?_) (λhhi=>?_));have hhi:(16:Int)<(w.2:Int)-(d_ l[w.1]:Int)+u_ l[w.1].op:=dT hhi;have hfull:(m_ l).full w=true:=(by unfold WG.full;rw [htk,AD (p:=16<w.2-d_ l[w.1]+(m_ l).lv w.1) (by omega),Bool.or_true]);exact Cb rfl ⟨(s++[w],t),(hfr hfull).1,st_eq u (by rw [bi,hfull,Bool.or_true]),(hfr hfull).2⟩;have hhi:¬(16:Int)<(w.2:Int)-(d_ l[w.1]:Int)+u_ l[w.1].op:=dF hhi;have hfull:(m_ l).full w=false:=(by unfold WG.full;rw [htk,A4 (by omega),A4 (by omega)];rfl);have hhiN:((w.2:Int)-(d_ l[w.1]:Int)+u_ l[w.1].op)=(((m_ l).hi w:Nat):Int):=(by unfold WG.hi;rw [htk];omega);rw [hhiN];have hnx:(m_ l).nxt w=(t_ l[w.1] w.1).map λb=>(b,(m_ l).hi w):=(by unfold WG.nxt;rw [Ab (by rw [hfull];decide),hgo]);have hgl:(t_ l[w.1] w.1).length<=2:=(by rw [←hgo];exact hg.two _);refine Aa (IF hx hw1) (J8 l w.1) (BV (JT hw1) rfl (BM _) (Aq (wN hgm (a:=w.1) (by omega)) rfl (by show Ak [Cv HI 1 _]=true;simp only [Ak,Uo Vh]) (Aa ((SlV.of (enc:=HI) (w:=1) _).len Tryz.underlying74) rfl ?_)));refine Dv (ι:=Nat) (λi=>[.int .i64 (i:Int),.int .i64 (((m_ l).hi w:Nat):Int),Ba p_ 2 (t++((t_ l[w.1] w.1).take i).map λb=>(b,(m_ l).hi w)),Cv HI 1 (t_ l[w.1] w.1),.bool (Q_ (s++[w])),.int .i64 ((t_ l[w.1] w.1).length:Int),Ba DI 2 (s++[w]),Ba p_ 2 (D4 (s++[w]))])
             (λi=>i<=(t_ l[w.1] w.1).length) (λi=>(t_ l[w.1] w.1).length-i) 0 (zd' _) (by show [_,_,_,_,_,_,_,_]=[_,_,_,_,_,_,_,_];rw [List.take_zero,List.map_nil,List.append_nil,u];rfl) (λi _=>by simp only [Ak,okC,DD Hu,DD Yb,Uo Vh]) (λi j _ _ h=>?_) (λi hi=>?_)
            .have h:=(List.cons.inj h).1;injection h with _ h
             omega
            refine Aa (AX ..) rfl (Ax rfl (λhlt=>?_) (λhlt=>?_));have hlt:(i:Int)<((t_ l[w.1] w.1).length:Int):=dT hlt;have hlt:i<(t_ l[w.1] w.1).length:=(by omega);refine Aa (pR hlt) (pA _ i) (Aa (u3 hlt) rfl (Aa (V9 _ _ _ (by rw [List.length_append,List.length_map,List.length_take];omega)) (DD Hu _) (Aa (AM ..) rfl (Cb rfl ⟨i+1,hlt,?_,by omega⟩))));show [AV.int .i64 (IntKind.i64.wrap ((i:Int)+1)),_,_,_,_,_,_,_]=[AV.int .i64 ((i+1:Nat):Int),_,_,_,_,_,_,_];rw [CS (by omega) (by omega),List.take_add_one,List.getElem?_eq_getElem hlt,Option.toList_some,List.map_append,←List.append_assoc];rfl
            .have hlt:¬(i:Int)<((t_ l[w.1] w.1).length:Int):=dF hlt;have hti:(t_ l[w.1] w.1).take i=t_ l[w.1] w.1:=List.take_of_length_le (by omega);have hf2:=BA.fresh hg hS (w:=w) (t':=t) (t2:=t++(m_ l).nxt w) hmem hlen hns (λv=>DU) Az;refine Cb rfl ⟨(s++[w],t++(m_ l).nxt w),hf2.1,?_,hf2.2⟩;show [AV.bool (Q_ (s++[w])),_,AV.bool (Hs (m_ l) s),_,_]=[AV.bool (Q_ (s++[w])),_,AV.bool (Hs (m_ l) (s++[w])),_,_];rw [bi,hfull,Bool.or_false,hti,hnx];rfl)
end Go.Proofs.YtelnbodnjmldeaaGreat.vars
