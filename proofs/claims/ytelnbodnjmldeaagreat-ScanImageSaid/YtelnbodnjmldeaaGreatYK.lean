/-
  Mach's laws: what they begin with.
-/
import Derived.Test.YtelnbodnjmldeaaGreatYF
import Derived.Test.YtelnbodnjmldeaaGreatFA
import Derived.Test.YtelnbodnjmldeaaGreatSyK
set_option linter.all false
set_option maxHeartbeats 1000000
set_option maxRecDepth 100000
open List renaming not_mem_nil→za',mem_cons_of_mem→zc',getElem_mem→zd',mem_append_left→ze',mem_append_right→zf',mem_cons_self→zg'
open Nat renaming zero_le→zb',beq_refl→zh',not_lt_zero→zi'
namespace Go.Proofs.YtelnbodnjmldeaaGreat.vars
open Go Go.Sx
def vz {b:List GS} {e:Bool} (h0:e=false->b=[]) (h1:e=true->b.length<=5/\∀s∈b,TS 3 s):b.length<=5/\∀s∈b,TS 3 s:=by
 cases e with
 |true=>exact h1 rfl
 |false=>rw [h0 rfl];exact ⟨zb' _,λs hs=>(za' hs).elim⟩
def pW {x:List GS} (h:pe x=0):(r_ x).length<=400/\pl x=m_ (r_ x):=by unfold pe at h;split at h;rename_i hl;exact ⟨hl,by unfold pl;rw [Ad hl]⟩;cases h
def sr {x:List GS} (hT:∀s∈x,TS 3 s) {mem:List FV} (hm:Aj mem) {now:Int}:Hq (r_ x) (HM x) (Sw mem now):=by
 have h0:=Hz_ hT;have hl:0<(r_ x).length:=by rw [←dg];exact (List.getElem?_eq_some_iff.1 h0).1
 exact ⟨0,(r_ x)[0],[],rfl,List.getElem?_eq_getElem hl,h0,rfl,λv hv=>(za' hv).elim,hm⟩
def Hq.small {l:List GI} {T:List (List Int)} {m:MS} (hG:Au T 0 l) (h:Hq l T m):m.st.length<=40/\Aj m.mem:=by obtain ⟨p,i,K,h⟩:=h;have hT:=hG p i K h.at_ (by rw [Nat.zero_add];exact h.ty);obtain ⟨K0,ks,e,_,h40,_⟩:=hT;have:=congrArg List.length h.st;rw [List.length_map]at this;exact ⟨by omega,h.mem⟩
def qp (l:List GI) {m:MS} {s:AV} (hs:St m.st s) {r:List AV} (hr:Ak r=true):Ak (m_ l::(KR m s++r))=true:=uV l m (St.okC hs) hr
def HX_:VC:=⟨⟨[],[]⟩,[],[],0,true,[]⟩
def jG:VT:=It Z7 [64,65] 67 (Li Zt [64,66] 68<|.done (68))<|.done (.bool false)
def xd:VC:=⟨⟨[],[]⟩,[(108,[none])],[],0,true,[]⟩
def xI:VT:=.call 108 [66,J 0,J 63] 71 [none]<|.done (71)
def sD:VC:=⟨⟨[],[]⟩,[(108,[none])],[],0,true,[]⟩
def qU:VT:=.call 108 [66,J 0,J 399] 71 [none]<|.done (71)
def HZ_:VC:=⟨⟨[],[]⟩,[],[],0,true,[]⟩
def lk:VT:=Iq 64 11 65 (.done (J 1))<|Iq 64 12 66 (.done (J 1))<|.done (J 2)
def sP:VC:=⟨⟨[],[]⟩,[],[],0,true,[]⟩
def dB:VT:=Iq 64 9 65 (.done (.tup [J 1,J 5]))<|Iq 64 10 66 (.done (.tup [J 1,J 5]))<|Iq 64 13 67 (.done (.tup [J 1,J 1]))<|Iq 64 14 68 (.done (.tup [J 1,J 1]))<|Iq 64 15 69 (.done (.tup [J 1,J 1]))<|Iq 64 8 70 (.done (.tup [J 2,J 4]))<|.done (.tup [J 2,J 5])
def zQ:VC:=⟨⟨[],[]⟩,[],[],0,true,[]⟩
def mR:VT:=Iq 64 0 67 (It Qt [65,J 0] 68 (It Zf [66,66] 69 (.done (.bool false))<|Li (.ext 159) [66] 70<|Li Ui [70,.int .u64 0] 71<|.done (71))<|.done (.bool false))<|.done (.bool false)
def qM:VC:=⟨⟨[],[]⟩,[],[],0,true,[]⟩
def jg:VT:=Iq 64 5 67 (Li Qt [65,J 0] 68<|.done (68))<|It Zf [66,66] 68 (.done (.bool false))<|Li (.ext 159) [66] 69<|It Uj [69,.int .u64 0] 70 (.done (.bool false))<|Iq 64 1 71 (It Qt [65,J 0] 72 (.done (.bool true))<|Li Qt [65,J 1] 73<|.done (73))<|Iq 64 2 72 (Li (.conv 2 219) [65] 73<|Li (.conv 219 2) [73] 74<|Li Qq [65,74] 75<|.done (75))<|Iq 64 3 73 (Li (.conv 2 21) [65] 74<|Li (.conv 21 2) [74] 75<|Li Qq [65,75] 76<|.done (76))<|Li Q0 [64,J 4] 74<|.done (74)
def xx:VC:=⟨⟨[],[]⟩,[(106,[none]),(105,[none]),(111,[none,none]),(110,[none]),(107,[none]),(108,[none]),(109,[none])],[],0,true,[]⟩
def oH:VT:=Iq 64 1 71 (Iq 66 0 72 (Iq 67 0 73 (It Q9 [65,68] 74 (.call 105 [.agg [68,69,70]] 75 [none]<|.done (75))<|.done (.bool false))<|.done (.bool false))<|.done (.bool false))<|.call 106 [.agg [68,69,70]] 72 [none]<|It Q6 [72] 73 (.done (.bool false))<|Iq 64 2 74 (Iq 65 0 75 (Iq 67 0 76 (.call 107 [.agg (Af 64 7)] 77 [none]<|.done (77))<|.done (.bool false))<|.done (.bool false))<|Iq 64 18 75 (Iq 65 0 76 (Iq 67 0 77 (.call 107 [.agg (Af 64 7)] 78 [none]<|.done (78))<|.done (.bool false))<|.done (.bool false))<|Iq 64 3 76 (Iq 65 0 77 (.call 107 [.agg (Af 64 7)] 78 [none]<|.ite 78 (.call 108 [67,J 1,J 8] 79 [none]<|.done (79))<|.done (.bool false))<|.done (.bool false))<|Iq 64 19 77 (Iq 65 0 78 (.call 107 [.agg (Af 64 7)] 79 [none]<|.ite 79 (.call 108 [67,J 1,J 8] 80 [none]<|.done (80))<|.done (.bool false))<|.done (.bool false))<|Iq 64 20 78 (Iq 65 0 79 (Iq 67 0 80 (.call 109 [.agg (Af 64 7)] 81 [none]<|.done (81))<|.done (.bool false))<|.done (.bool false))<|Iq 64 21 79 (Iq 65 0 80 (Iq 67 0 81 (.call 109 [.agg (Af 64 7)] 82 [none]<|.done (82))<|.done (.bool false))<|.done (.bool false))<|Iq 64 22 80 (.call 108 [65,J 6,J 12] 81 [none]<|.ite 81 (.call 107 [.agg (Af 64 7)] 82 [none]<|.ite 82 (.call 110 [65] 83 [none]<|Li Q9 [67,83] 84<|.done (84))<|.done (.bool false))<|.done (.bool false))<|Iq 64 23 81 (Iq 65 0 82 (Iq 66 0 83 (Li Q0 [67,J 0] 84<|.done (84))<|.done (.bool false))<|.done (.bool false))<|Iq 64 17 82 (Iq 66 0 83 (.call 108 [65,J 2,J 5] 84 [none]<|.ite 84 (.call 108 [67,J 2,J 5] 85 [none]<|.done (85))<|.done (.bool false))<|.done (.bool false))<|.call 111 [64] 83 [none,none]<|.call 108 [64,J 4,J 16] 85 [none]<|.ite 85 (Iq 66 0 86 (Iq 67 0 87 (.call 108 [65,83,84] 88 [none]<|.done (88))<|.done (.bool false))<|.done (.bool false))<|.done (.bool false)
section
variable {Q:AV->Prop} {L:List (Nat->List AV->Prop)} {Y:Sy}
def bE {p q:Prop} [Decidable p] [Decidable q] (h:p↔q):AV.bool (decide p)=AV.bool (decide q):=congrArg AV.bool (decide_eq_decide.2 h)
def bT {q:Prop} [Decidable q] (h:q):AV.bool true=AV.bool (decide q):=congrArg AV.bool (AX h).symm
def bF {q:Prop} [Decidable q] (h:¬q):AV.bool false=AV.bool (decide q):=congrArg AV.bool (Bk h).symm
def dT {p:Prop} [Decidable p] (h:decide p=true):p:=AR h
def dF {p:Prop} [Decidable p] (h:decide p=false):¬p:=Cy h
end
def F6 (k i:Int) (f:Nat):Prop:=(k=5/\i=0)\/(f=0/\((k=1/\(i=0\/i=1))\/(k=2/\ -32768<=i/\i<=32767)\/(k=3/\ -2147483648<=i/\i<=2147483647)\/k=4))
instance (k i:Int) (f:Nat):Decidable (F6 k i f):=by unfold F6;infer_instance
def IM (op:Int):Int:=if op=9\/op=10\/op=13\/op=14\/op=15 then 1 else 2
def I6 (op:Int):Int:=if op=13\/op=14\/op=15 then 1 else if op=8 then 4 else 5
def EI (op kd ad n vk vi:Int) (vf:Nat):Prop:=(op=1/\ad=0/\n=0/\kd=vk/\F6 vk vi vf)\/(op≠1/\vk=0/\vi=0/\vf=0/\
 (((op=2\/op=18)/\kd=0/\n=0/\0<=ad/\ad<=63)\/((op=3\/op=19)/\kd=0/\0<=ad/\ad<=63/\1<=n/\n<=8)\/((op=20\/op=21)/\kd=0/\n=0/\0<=ad/\ad<=399)\/
  (op=22/\6<=kd/\kd<=12/\0<=ad/\ad<=63/\n=(if kd=11\/kd=12 then 1 else 2))\/(op=23/\kd=0/\ad=0/\n=0)\/(op=17/\ad=0/\2<=kd/\kd<=5/\2<=n/\n<=5)\/
  (4<=op/\op<=16/\ad=0/\n=0/\IM op<=kd/\kd<=I6 op)))
instance (op kd ad n vk vi:Int) (vf:Nat):Decidable (EI op kd ad n vk vi vf):=by unfold EI;infer_instance
def Hy (n a b:Int):AQ 108 [.int .i64 n,.int .i64 a,.int .i64 b] (.bool (decide (a<=n/\n<=b))):=by refine BV [none,none,none] [.int .i64 n,.int .i64 a,.int .i64 b] HX_ jG rfl rfl rfl rfl rfl (by kernel_rfl) λY hf hg=>?_;unfold jG;refine Aa (Ba ..) rfl (AC rfl (λh=>Aa (BN ..) rfl (As (bE ?_))) (λh=>As (bF ?_)));have:=dT h;omega;have:=dF h;omega
def xn (g:GI):AQ 107 [.agg (n_ g)] (.bool (decide (0<=g.ad/\g.ad<=63))):=by refine BV [some 7] (n_ g) xd xI rfl (Cx _) rfl rfl rfl (by kernel_rfl) λY hf hg=>?_;exact Ar (Hy _ _ _) rfl rfl (As rfl)
def rP (g:GI):AQ 109 [.agg (n_ g)] (.bool (decide (0<=g.ad/\g.ad<=399))):=by refine BV [some 7] (n_ g) sD qU rfl (Cx _) rfl rfl rfl (by kernel_rfl) λY hf hg=>?_;exact Ar (Hy _ _ _) rfl rfl (As rfl)
def iK {a b:Int} (h:a=b):AV.int .i64 a=AV.int .i64 b:=by rw [h]
def tK {a b c d:Int} (h:a=c) (h':b=d):AV.tup [.int .i64 a,.int .i64 b]=.tup [.int .i64 c,.int .i64 d]:=by rw [h,h']
def yf (k:Int):AQ 110 [.int .i64 k] (.int .i64 (if k=11\/k=12 then 1 else 2)):=by
 refine BV [none] [.int .i64 k] HZ_ lk rfl rfl rfl rfl rfl (by kernel_rfl) λY hf hg=>?_;unfold lk;repeat' (refine i_ rfl rfl ?_ ?_<;>intro h<;>simp only [nc]at h<;>try omega)
 all_goals exact As (iK (by split<;>omega))
def yl (op:Int):AQ 111 [.int .i64 op] (.tup [.int .i64 (IM op),.int .i64 (I6 op)]):=by
 refine BV [none] [.int .i64 op] sP dB rfl rfl rfl rfl rfl (by kernel_rfl) λY hf hg=>?_;unfold dB;repeat' (refine i_ rfl rfl ?_ ?_<;>intro h<;>simp only [nc]at h<;>try omega)
 all_goals exact As (tK (by unfold IM;split<;>omega) (by unfold I6;(repeat' split)<;>omega))
def eQ (n:Nat):(XOp.ext 159).run Tryz.prog [.flt .f64 n]=some (.int .u64 (n:Int)):=by kernel_rfl
def fH {n:Nat} (h:CG n=true):n≠0:=by unfold CG at h;have:=AR h;omega
def ru (k i:Int) (f:Nat):AQ 106 [.agg [.int .i64 k,.int .i64 i,.flt .f64 f]] (.bool (decide (k=0/\i=0/\f=0))):=by refine BV [some 3] [.int .i64 k,.int .i64 i,.flt .f64 f] zQ mR rfl rfl rfl rfl rfl (by kernel_rfl) λY hf hg=>?_;unfold mR;refine Aa (Aw ..) rfl (AC rfl (λh=>?_) (λh=>As (bF (by have:=dF h;omega))));refine Aa (Aw ..) rfl (AC rfl (λh2=>?_) (λh2=>As (bF (by have:=dF h2;omega))));have h:=dT h;have h2:=dT h2;refine Aa (nG ..) rfl (AC rfl (λhn=>As (bF ?_)) (λhn=>Aa (eQ f) rfl (Aa (Aw ..) rfl (As (bE ?_)))));have:=fH hn;omega;omega
def DE_ (i:Int):i=IntKind.i64.wrap (IntKind.i16.wrap i)↔(-32768<=i/\i<=32767):=by simp [IntKind.wrap,IntKind.bits,IntKind.signed];omega
def wW (i:Int):i=IntKind.i64.wrap (IntKind.i32.wrap i)↔(-2147483648<=i/\i<=2147483647):=by simp [IntKind.wrap,IntKind.bits,IntKind.signed];omega
def Jn_ (k i:Int) (f:Nat):AQ 105 [.agg [.int .i64 k,.int .i64 i,.flt .f64 f]] (.bool (decide (F6 k i f))):=by refine BV [some 3] [.int .i64 k,.int .i64 i,.flt .f64 f] qM jg rfl rfl rfl rfl rfl (by kernel_rfl) λY hf hg=>?_;unfold jg;refine Aa (Aw ..) rfl (AC rfl (λh5=>Aa (Aw ..) rfl (As (bE ?_))) (λh5=>?_));have:=dT h5;unfold F6;omega;have h5:=dF h5;refine Aa (nG ..) rfl (AC rfl (λhn=>As (bF ?_)) (λhn=>Aa (eQ f) rfl (Aa (Av ..) rfl (AC rfl (λh0=>As (bF ?_)) (λh0=>?_)))));have:=fH hn;unfold F6;omega;have h0:(!decide ((f:Int)=0))=true:=h0;simp only [Bool.not_eq_true',AP]at h0;unfold F6;omega;have h0:(!decide ((f:Int)=0))=false:=h0;simp only [Bool.not_eq_false',AJ]at h0;refine Aa (Aw ..) rfl (AC rfl (λh1=>?_) (λh1=>?_));have h1:=dT h1;refine Aa (Aw ..) rfl (AC rfl (λhi=>As (bT ?_)) (λhi=>Aa (Aw ..) rfl (As (bE ?_))));have:=dT hi;unfold F6;omega;have:=dF hi;unfold F6;omega;have h1:=dF h1;refine Aa (Aw ..) rfl (AC rfl (λh2=>?_) (λh2=>?_));have h2:=dT h2;refine Aa (HE Tryz.underlying2 Tryz.underlying219 _) rfl (Aa (HE Tryz.underlying219 Tryz.underlying2 _) rfl (Aa (Aw ..) rfl (As (bE ((DE_ i).trans ?_)))));unfold F6;omega;have h2:=dF h2;refine Aa (Aw ..) rfl (AC rfl (λh3=>?_) (λh3=>?_));have h3:=dT h3;refine Aa (HE Tryz.underlying2 Tryz.underlying21 _) rfl (Aa (HE Tryz.underlying21 Tryz.underlying2 _) rfl (Aa (Aw ..) rfl (As (bE ((wW i).trans ?_)))));unfold F6;omega;have h3:=dF h3;refine Aa (Aw ..) rfl (As (bE ?_));unfold F6;omega
section
variable {op kd ad n vk vi:Int} {vf:Nat}
def Jc_ (h:op=1):EI op kd ad n vk vi vf↔(ad=0/\n=0/\kd=vk/\F6 vk vi vf):=by unfold EI;exact ⟨λq=>q.elim (λq=>q.2) (λq=>absurd h q.1),λq=>.inl ⟨h,q⟩⟩
def KV (h:op≠1):EI op kd ad n vk vi vf↔(vk=0/\vi=0/\vf=0/\
 (((op=2\/op=18)/\kd=0/\n=0/\0<=ad/\ad<=63)\/((op=3\/op=19)/\kd=0/\0<=ad/\ad<=63/\1<=n/\n<=8)\/((op=20\/op=21)/\kd=0/\n=0/\0<=ad/\ad<=399)\/
  (op=22/\6<=kd/\kd<=12/\0<=ad/\ad<=63/\n=(if kd=11\/kd=12 then 1 else 2))\/(op=23/\kd=0/\ad=0/\n=0)\/(op=17/\ad=0/\2<=kd/\kd<=5/\2<=n/\n<=5)\/
  (4<=op/\op<=16/\ad=0/\n=0/\IM op<=kd/\kd<=I6 op))):=by
 unfold EI;exact ⟨λq=>q.elim (λq=>absurd q.1 h) (λq=>q.2),λq=>.inr ⟨h,q⟩⟩
def uB (h:op=2\/op=18):EI op kd ad n vk vi vf↔(vk=0/\vi=0/\vf=0/\kd=0/\n=0/\0<=ad/\ad<=63):=by refine (KV (by omega)).trans ⟨λq=>?_,λq=>⟨q.1,q.2.1,q.2.2.1,.inl ⟨h,q.2.2.2⟩⟩⟩;obtain ⟨a,b,c,d⟩:=q;refine ⟨a,b,c,?_⟩;rcases d with d|d|d|d|d|d|d<;>omega
def wg (h:op=3\/op=19):EI op kd ad n vk vi vf↔(vk=0/\vi=0/\vf=0/\kd=0/\0<=ad/\ad<=63/\1<=n/\n<=8):=by refine (KV (by omega)).trans ⟨λq=>?_,λq=>⟨q.1,q.2.1,q.2.2.1,.inr (.inl ⟨h,q.2.2.2⟩)⟩⟩;obtain ⟨a,b,c,d⟩:=q;refine ⟨a,b,c,?_⟩;rcases d with d|d|d|d|d|d|d<;>omega
def FR_ (h:op=20\/op=21):EI op kd ad n vk vi vf↔(vk=0/\vi=0/\vf=0/\kd=0/\n=0/\0<=ad/\ad<=399):=by refine (KV (by omega)).trans ⟨λq=>?_,λq=>⟨q.1,q.2.1,q.2.2.1,.inr (.inr (.inl ⟨h,q.2.2.2⟩))⟩⟩;obtain ⟨a,b,c,d⟩:=q;refine ⟨a,b,c,?_⟩;rcases d with d|d|d|d|d|d|d<;>omega
def zK (h:op=22):EI op kd ad n vk vi vf↔(vk=0/\vi=0/\vf=0/\6<=kd/\kd<=12/\0<=ad/\ad<=63/\n=(if kd=11\/kd=12 then 1 else 2)):=by refine (KV (by omega)).trans ⟨λq=>?_,λq=>⟨q.1,q.2.1,q.2.2.1,.inr (.inr (.inr (.inl ⟨h,q.2.2.2⟩)))⟩⟩;obtain ⟨a,b,c,d⟩:=q;refine ⟨a,b,c,?_⟩;rcases d with d|d|d|d|d|d|d;omega;omega;omega;exact d.2;omega;omega;omega
def qa (h:op=23):EI op kd ad n vk vi vf↔(vk=0/\vi=0/\vf=0/\kd=0/\ad=0/\n=0):=by refine (KV (by omega)).trans ⟨λq=>?_,λq=>⟨q.1,q.2.1,q.2.2.1,.inr (.inr (.inr (.inr (.inl ⟨h,q.2.2.2⟩))))⟩⟩;obtain ⟨a,b,c,d⟩:=q;refine ⟨a,b,c,?_⟩;rcases d with d|d|d|d|d|d|d<;>omega
def rj (h:op=17):EI op kd ad n vk vi vf↔(vk=0/\vi=0/\vf=0/\ad=0/\2<=kd/\kd<=5/\2<=n/\n<=5):=by refine (KV (by omega)).trans ⟨λq=>?_,λq=>⟨q.1,q.2.1,q.2.2.1,.inr (.inr (.inr (.inr (.inr (.inl ⟨h,q.2.2.2⟩)))))⟩⟩;obtain ⟨a,b,c,d⟩:=q;refine ⟨a,b,c,?_⟩;rcases d with d|d|d|d|d|d|d<;>omega
def Vg (lo hi:Int) (h:4<=op/\op<=16) (hl:IM op=lo) (hh:I6 op=hi):EI op kd ad n vk vi vf↔(vk=0/\vi=0/\vf=0/\ad=0/\n=0/\lo<=kd/\kd<=hi):=by subst hl hh;refine (KV (by omega)).trans ⟨λq=>?_,λq=>⟨q.1,q.2.1,q.2.2.1,.inr (.inr (.inr (.inr (.inr (.inr ⟨h.1,h.2,q.2.2.2⟩)))))⟩⟩;obtain ⟨a,b,c,d⟩:=q;refine ⟨a,b,c,?_⟩;rcases d with d|d|d|d|d|d|d<;>omega
def wV (h:op<1\/23<op):EI op kd ad n vk vi vf↔False:=by refine (KV (by omega)).trans ⟨λq=>?_,λq=>q.elim⟩;obtain ⟨a,b,c,d⟩:=q;rcases d with d|d|d|d|d|d|d<;>omega
def Ae (op:Int):op=1\/(op=2\/op=18)\/(op=3\/op=19)\/(op=20\/op=21)\/op=22\/op=23\/op=17\/(op=9\/op=10)\/(op=13\/op=14\/op=15)\/op=8\/(op=4\/op=5\/op=6\/op=7\/op=11\/op=12\/op=16)\/(op<1\/23<op):=by omega
end
def lU {op:Int} (h:op=9\/op=10):IM op=1/\I6 op=5:=by rcases h with rfl|rfl<;>exact ⟨rfl,rfl⟩
def pT {op:Int} (h:op=13\/op=14\/op=15):IM op=1/\I6 op=1:=by rcases h with rfl|rfl|rfl<;>exact ⟨rfl,rfl⟩
def mC {op:Int} (h:op=8):IM op=2/\I6 op=4:=by subst h;exact ⟨rfl,rfl⟩
def en {op:Int} (h:op=4\/op=5\/op=6\/op=7\/op=11\/op=12\/op=16):IM op=2/\I6 op=5:=by rcases h with rfl|rfl|rfl|rfl|rfl|rfl|rfl<;>exact ⟨rfl,rfl⟩
set_option maxHeartbeats 4000000 in
def rk (g:GI):AQ 63 [.agg (n_ g)] (.bool (decide (EI g.op g.kd g.ad g.n g.vk g.vi g.vf))):=by
 obtain ⟨op,kd,ad,n,vk,vi,vf⟩:=g;refine BV [some 7] (n_ ⟨op,kd,ad,n,vk,vi,vf⟩) xx oH rfl (Cx _) rfl rfl rfl (by kernel_rfl) λY hf hg=>?_;show AB _ (· =AV.bool (decide (EI op kd ad n vk vi vf))) _ _ _;have hc:=xn ⟨op,kd,ad,n,vk,vi,vf⟩;have hd:=rP ⟨op,kd,ad,n,vk,vi,vf⟩;simp only at hc hd;have hz0:(!decide (vk=0/\vi=0/\vf=0))=true->(vk=0/\vi=0/\vf=0)->False:=λh q=>by rw [AX q]at h;cases h
 have hz1:(!decide (vk=0/\vi=0/\vf=0))=false->(vk=0/\vi=0/\vf=0):=λh=>by simpa using h
 unfold oH;rcases Ae op with h|h|h|h|h|h|h|h|h|h|h|h
 .rw [decide_eq_decide.2 (Jc_ h)];refine i_ rfl rfl (λh1=>?_) (λh1=>absurd h h1);repeat' (refine i_ rfl rfl ?_ ?_<;>intro h<;>simp only [nc]at h<;>try omega)
  refine Ar (Jn_ vk vi vf) rfl rfl (As ?_);exact bE ⟨λh=>⟨by omega,by omega,by omega,h⟩,λh=>h.2.2.2⟩;all_goals exact As (bF λq=>by omega)
 all_goals
  first|rw [decide_eq_decide.2 (uB h)]|rw [decide_eq_decide.2 (wg h)]|rw [decide_eq_decide.2 (FR_ h)]|rw [decide_eq_decide.2 (zK h)]|rw [decide_eq_decide.2 (qa h)]|rw [decide_eq_decide.2 (rj h)]|(have e1:=(lU h).1;have e2:=(lU h).2;rw [decide_eq_decide.2 (Vg 1 5 (by omega) e1 e2)])|(have e1:=(pT h).1;have e2:=(pT h).2;rw [decide_eq_decide.2 (Vg 1 1 (by omega) e1 e2)])|(have e1:=(mC h).1;have e2:=(mC h).2;rw [decide_eq_decide.2 (Vg 2 4 (by omega) e1 e2)])|(have e1:=(en h).1;have e2:=(en h).2;rw [decide_eq_decide.2 (Vg 2 5 (by omega) e1 e2)])|rw [decide_eq_decide.2 (wV h)]
  (
   refine i_ rfl rfl (λq1=>?_) (λq1=>?_)<;>simp only [nc]at q1
   exfalso;omega;refine Ar (ru vk vi vf) rfl rfl (Aa (Ib ..) rfl (AC rfl (λhz=>As (bF λq=>hz0 hz (by first|omega|exact q.elim))) (λhz=>?_)));obtain ⟨z1,z2,z3⟩:=hz1 hz;repeat' first
    |(refine i_ rfl rfl ?_ ?_<;>intro h<;>simp only [nc]at h<;>try omega)
    |(refine Ar hc rfl rfl (AC rfl ?_ ?_)<;>intro h<;>(first|replace h:=dT h|replace h:=dF h))
    |(refine Ar (Hy kd 6 12) rfl rfl (AC rfl ?_ ?_)<;>intro h<;>(first|replace h:=dT h|replace h:=dF h))
    |(refine Ar (Hy kd 2 5) rfl rfl (AC rfl ?_ ?_)<;>intro h<;>(first|replace h:=dT h|replace h:=dF h))
    |(refine Ar (Hy op 4 16) rfl rfl (AC rfl ?_ ?_)<;>intro h<;>(first|replace h:=dT h|replace h:=dF h))
    |(refine As (bF ?_);omega)
    |exact As (bF id)
    |(refine Aa (Aw ..) rfl (As (bE ?_));omega)
    |(refine Aa (Aw ..) rfl (As (bE ?_));dsimp only;omega)
    |(refine Aa (Aw ..) rfl (As (bE ?_));dsimp only;exact ⟨λq=>⟨z1,z2,z3,by omega,by omega,by omega,by omega,q⟩,λq=>q.2.2.2.2.2.2.2⟩)
    |(refine Ar hc rfl rfl (As (bE ?_));omega)
    |(refine Ar hd rfl rfl (As (bE ?_));omega)
    |(refine Ar (Hy n 1 8) rfl rfl (As (bE ?_));omega)
    |(refine Ar (Hy n 2 5) rfl rfl (As (bE ?_));omega)
    |(refine Ar (Hy kd 1 5) rfl rfl (As (bE ?_));omega)
    |(refine Ar (Hy kd 1 1) rfl rfl (As (bE ?_));omega)
    |(refine Ar (Hy kd 2 4) rfl rfl (As (bE ?_));omega)
    |(refine Ar (Hy kd 2 5) rfl rfl (As (bE ?_));omega)
    |(refine Ar (Hy kd (IM op) (I6 op)) rfl rfl (As (bE ?_));omega)
    |refine Ar (yf kd) rfl rfl ?_
    |refine Ar (yl op) rfl rfl ?_)
def N9 (k:Int):Int:=if 1<=k/\k<=5 then 1 else if 6<=k/\k<=8 then 4 else if k=9\/k=10 then 3 else if k=11\/k=12 then 2 else 0
structure WG where
 N:Nat
 tk:Nat->Nat
 lv:Nat->Nat
 goes:Nat->List Nat
structure WG.Ok (g:WG):Prop where
 pos:0<g.N
 inn:∀a,a<g.N->∀b∈g.goes a,b<g.N
 two:∀a,(g.goes a).length<=2
def WG.full (g:WG) (w:Nat×Nat):Bool:=decide (w.2<g.tk w.1)||decide (16<w.2-g.tk w.1+g.lv w.1)
def WG.hi (g:WG) (w:Nat×Nat):Nat:=w.2-g.tk w.1+g.lv w.1
def WG.nxt (g:WG) (w:Nat×Nat):List (Nat×Nat):=if g.full w=true then []else (g.goes w.1).map λb=>(b,g.hi w)
inductive WG.Reach (g:WG):Nat×Nat->Prop
 |zero:WG.Reach g (0,0)
 |step {w w':Nat×Nat}:WG.Reach g w->w'∈g.nxt w->WG.Reach g w'
variable {g:WG}
def WG.nxt_hi {w w':Nat×Nat} (h:w'∈g.nxt w):g.full w=false/\w'.2=g.hi w/\w'.1∈g.goes w.1/\g.hi w<=16:=by unfold WG.nxt at h;split at h;cases h;rename_i hf;obtain ⟨b,hb,rfl⟩:=List.mem_map.1 h;have hf:g.full w=false:=(by simpa using hf);refine ⟨hf,rfl,hb,?_⟩;unfold WG.full at hf;simp only [Bool.or_eq_false_iff,AP]at hf;have:=hf.2;unfold WG.hi;omega
def WG.nxt_in (hg:g.Ok) {w w':Nat×Nat} (hw:w.1<g.N) (h:w'∈g.nxt w):w'.1<g.N/\w'.2<=16:=by obtain ⟨_,h1,h2,h3⟩:=WG.nxt_hi h;exact ⟨hg.inn _ hw _ h2,by omega⟩
def WG.nxt_two (hg:g.Ok) (w:Nat×Nat):(g.nxt w).length<=2:=by unfold WG.nxt;split;simp;rw [List.length_map];exact hg.two _
def Ft (S:Nat->Bool):Nat->Nat
 |0=>0
 |n+1=>Ft S n+(if S n=true then 0 else 1)
def Lb (S:Nat->Bool) (i:Nat):Nat->Bool:=λj=>S j||decide (j=i)
theorem px (S:Nat->Bool) (i:Nat):∀n,n<=i->Ft (Lb S i) n=Ft S n
 |0,_=>rfl
 |n+1,h=>by have e:¬n=i:=(by omega);simp only [Ft,px S i n (by omega),Lb,e,decide_false,Bool.or_false]
def nU (S:Nat->Bool) (i:Nat) (hs:S i=false):∀n,i<n->Ft (Lb S i) n+1=Ft S n
 |0,h=>by omega
 |n+1,h=>by by_cases e:n=i;subst e;simp only [Ft,px S n n (Nat.le_refl _),Lb,hs];simp;have:=nU S i hs n (by omega);have e2:Lb S i n=S n:=(by simp [Lb,e]);simp only [Ft,e2];omega
def eU (S:Nat->Bool):∀n,Ft S n<=n
 |0=>Nat.le_refl _
 |n+1=>by have:=eU S n;simp only [Ft];split<;>omega
theorem WD {S S':Nat->Bool}:∀n,(∀i,i<n->S i=S' i)->Ft S n=Ft S' n
 |0,_=>rfl
 |n+1,h=>by simp only [Ft,h n (by omega),WD n λi hi=>h i (by omega)]
def Nz (s:List (Nat×Nat)) (k:Nat):Bool:=decide ((k/17,k%17)∈s)
def left (g:WG) (s:List (Nat×Nat)):Nat:=Ft (Nz s) (17*g.N)
def oC {s:List (Nat×Nat)} {w:Nat×Nat} (h1:w.1<g.N) (h2:w.2<=16) (hn:w∉s):left g (s++[w])+1=left g s:=by
 have hk:(w.1*17+w.2)/17=w.1/\(w.1*17+w.2)%17=w.2:=by omega
 have he:Ft (Nz (s++[w])) (17*g.N)=Ft (Lb (Nz s) (w.1*17+w.2)) (17*g.N):=WD _ λi hi=>by unfold Nz Lb;by_cases hm:(i/17,i%17)∈s;simp [hm];have:((i/17,i%17)=w)↔i=w.1*17+w.2:=(by constructor;intro h;have a:=congrArg Prod.fst h;have b:=congrArg Prod.snd h;simp only at a b;omega;intro h;obtain ⟨x,y⟩:=w;simp only at h hk;subst h;exact Prod.ext hk.1 hk.2);by_cases hi':i=w.1*17+w.2;rw [this.2 hi',AX hi'];simp;have hne:¬(i/17,i%17)=w:=λh=>hi' (this.1 h);simp [hm,hne,hi']
 unfold left;rw [he];refine nU _ _ ?_ _ (by omega);unfold Nz;rw [hk.1,hk.2];simpa using hn
def jv (g:WG) (s:List (Nat×Nat)):left g s<=17*g.N:=eU _ _
structure BR (g:WG) (s t:List (Nat×Nat)):Prop where
 nd:s.Nodup
 rs:∀w∈s,g.Reach w/\w.1<g.N/\w.2<=16
 rt:∀w∈t,g.Reach w/\w.1<g.N/\w.2<=16
 z:(0,0)∈s\/(0,0)∈t
 cl:∀w∈s,∀w'∈g.nxt w,w'∈s\/w'∈t
 lt:t.length+2*left g s<=1+34*g.N
def BR.begin (hg:g.Ok):BR g [] [(0,0)] where
 nd:=List.nodup_nil
 rs:=λw h=>(za' h).elim
 rt:=λw h=>by rw [List.mem_singleton.1 h];exact ⟨.zero,hg.pos,zb' _⟩
 z:=.inr (List.mem_singleton.2 rfl)
 cl:=λw h=>(za' h).elim
 lt:=by have:=jv g [];simp only [B8];omega
def BR.seen {s t t':List (Nat×Nat)} {w:Nat×Nat} (h:BR g s t) (ht:∀v,v∈t↔v=w\/v∈t') (hl:t'.length+1=t.length) (hw:w∈s):BR g s t' where
 nd:=h.nd
 rs:=h.rs
 rt:=λv hv=>h.rt v ((ht v).2 (.inr hv))
 z:=h.z.elim .inl λh0=>((ht _).1 h0).elim (λe=>.inl (e▸hw)) .inr
 cl:=λv hv v' hv'=>(h.cl v hv v' hv').elim .inl λh0=>((ht _).1 h0).elim (λe=>.inl (e▸hw)) .inr
 lt:=by have:=h.lt;omega
def BR.fresh (hg:g.Ok) {s t t' t2:List (Nat×Nat)} {w:Nat×Nat} (h:BR g s t) (ht:∀v,v∈t↔v=w\/v∈t') (hl:t'.length+1=t.length) (hw:w∉s)
  (ht2:∀v,v∈t2↔v∈t'\/v∈g.nxt w) (hl2:t2.length=t'.length+(g.nxt w).length):BR g (s++[w]) t2/\2*left g (s++[w])+t2.length<2*left g s+t.length:=by
 have hwt:g.Reach w/\w.1<g.N/\w.2<=16:=h.rt w ((ht w).2 (.inl rfl));have hls:=oC (s:=s) hwt.2.1 hwt.2.2 hw;have h2:=WG.nxt_two hg w;have hlt:=h.lt;refine ⟨⟨?_,?_,?_,?_,?_,?_⟩,by omega⟩;rw [List.nodup_append];refine ⟨h.nd,by simp,?_⟩;intro a ha b hb e;rw [List.mem_singleton.1 hb]at e;exact hw (e▸ha);intro v hv;rcases List.mem_append.1 hv with hv|hv;exact h.rs v hv;rw [List.mem_singleton.1 hv];exact hwt;intro v hv;rcases (ht2 v).1 hv with hv|hv;exact h.rt v ((ht v).2 (.inr hv));exact ⟨.step hwt.1 hv,WG.nxt_in hg hwt.2.1 hv⟩;rcases h.z with h0|h0;exact .inl (ze' _ h0);rcases (ht _).1 h0 with e|h0;exact .inl (zf' _ (List.mem_singleton.2 e));exact .inr ((ht2 _).2 (.inl h0));intro v hv v' hv';rcases List.mem_append.1 hv with hv|hv;rcases h.cl v hv v' hv' with h0|h0;exact .inl (ze' _ h0);rcases (ht _).1 h0 with e|h0;exact .inl (zf' _ (List.mem_singleton.2 e));exact .inr ((ht2 _).2 (.inl h0));rw [List.mem_singleton.1 hv]at hv';exact .inr ((ht2 _).2 (.inr hv'));omega
def qI:∀(s:List (Nat×Nat)),s.Nodup->(∀w∈s,w.1<g.N/\w.2<=16)->left g s+s.length<=17*g.N:=by
 intro s;generalize hn:s.length=n
 induction n generalizing s with
 |zero=>intro _ _;exact jv g s
 |succ n ih=>intro hd hin;have hne:s≠[]:=λe=>(by rw [e]at hn;cases hn);have e:=(List.dropLast_concat_getLast hne).symm;generalize s.dropLast=r at e;generalize s.getLast hne=w at e;subst e;rw [List.nodup_append]at hd;have hw:w∉r:=λh=>hd.2.2 w h w (List.mem_singleton.2 rfl) rfl;have h1:=hin w (zf' _ (List.mem_singleton.2 rfl));have:=oC (g:=g) h1.1 h1.2 hw;have hl:r.length=n:=(by rw [List.length_append]at hn;simp at hn;omega);have:=ih r hl hd.1 λv hv=>hin v (ze' _ hv);omega
def BR.len_le {s t:List (Nat×Nat)} (h:BR g s t):s.length<=17*g.N:=by have:=qI s h.nd λw hw=>(h.rs w hw).2;omega
def BR.all {s:List (Nat×Nat)} (h:BR g s []) {w:Nat×Nat} (hr:g.Reach w):w∈s:=by
 induction hr with
 |zero=>exact h.z.elim id λh0=>(za' h0).elim
 |step _ hw ih=>exact (h.cl _ ih _ hw).elim id λh0=>(za' h0).elim
def WG.Full (g:WG):Prop:=∃w,g.Reach w/\g.full w=true
def WG.Two (g:WG):Prop:=∃a h h',g.Reach (a,h)/\g.Reach (a,h')/\h≠h'
def Ht (g:WG) (s:List (Nat×Nat)):Bool:=s.any g.full
def Da (s:List (Nat×Nat)) (a:Nat):Nat:=s.countP λw=>w.1==a
def U_ (s:List (Nat×Nat)):Bool:=s.any λw=>decide (1<Da s w.1)
def wq {s:List (Nat×Nat)} (hn:s.Nodup) {a h h':Nat} (h1:(a,h)∈s) (h2:(a,h')∈s) (hne:h≠h'):1<Da s a:=by
 induction s with
 |nil=>cases h1
 |cons x s ih=>
  rw [List.nodup_cons]at hn;have one:∀{k},(a,k)∈s->0<Da s a:=λhk=>List.countP_pos_iff.2 ⟨_,hk,by simp⟩;unfold Da;rw [List.countP_cons];rcases List.mem_cons.1 h1 with e1|m1<;>rcases List.mem_cons.1 h2 with e2|m2
  exact absurd (congrArg Prod.snd (e1.trans e2.symm)) hne;have:=one m2;unfold Da at this;subst e1;simp only [BEq.rfl,if_true];omega;have:=one m1;unfold Da at this;subst e2;simp only [BEq.rfl,if_true];omega;have:=ih hn.2 m1 m2;unfold Da at this;omega
def uC {s:List (Nat×Nat)} (hn:s.Nodup) {a:Nat} (h:1<Da s a):∃k k',(a,k)∈s/\(a,k')∈s/\k≠k':=by
 induction s with
 |nil=>simp [Da]at h
 |cons x s ih=>rw [List.nodup_cons]at hn;unfold Da at h;rw [List.countP_cons]at h;by_cases hx:x.1=a;have h0:0<s.countP λw=>w.1==a:=(by have:(x.1==a)=true:=(by simp [hx]);rw [Ad this]at h;omega);obtain ⟨y,hy,hya⟩:=List.countP_pos_iff.1 h0;have hya:y.1=a:=(by simpa using hya);refine ⟨x.2,y.2,?_,?_,?_⟩;rw [←hx];exact zg' ..;rw [←hya];exact zc' _ hy;intro e;have:x=y:=Prod.ext (hx.trans hya.symm) e;exact hn.1 (this▸hy);have:¬((x.1==a)=true):=(by simpa using hx);rw [Ab this]at h;obtain ⟨k,k',h1,h2,h3⟩:=ih hn.2 (by unfold Da;omega);exact ⟨k,k',zc' _ h1,zc' _ h2,h3⟩
def BR.full {s:List (Nat×Nat)} (h:BR g s []):Ht g s=true↔g.Full:=by unfold Ht;rw [List.any_eq_true];exact ⟨λ⟨w,h1,h2⟩=>⟨w,(h.rs w h1).1,h2⟩,λ⟨w,h1,h2⟩=>⟨w,h.all h1,h2⟩⟩
def BR.two {s:List (Nat×Nat)} (h:BR g s []):U_ s=true↔g.Two:=by unfold U_;rw [List.any_eq_true];constructor;rintro ⟨w,h1,h2⟩;obtain ⟨k,k',m1,m2,hne⟩:=uC h.nd (by simpa using h2);exact ⟨w.1,k,k',(h.rs _ m1).1,(h.rs _ m2).1,hne⟩;rintro ⟨a,k,k',m1,m2,hne⟩;exact ⟨(a,k),h.all m1,by simpa using wq h.nd (h.all m1) (h.all m2) hne⟩
theorem mQ {s:List (Nat×Nat)} {w:Nat×Nat}:U_ (s++[w])=(U_ s||decide (1<Da s w.1+1)):=by
 have hc:∀a,Da (s++[w]) a=Da s a+(if w.1=a then 1 else 0):=λa=>by unfold Da;rw [List.countP_append,List.countP_singleton];by_cases h:w.1=a<;>simp [h]
 apply Bool.eq_iff_iff.2;unfold U_;simp only [List.any_append,List.any_cons,List.any_nil,Bool.or_false,Bool.or_eq_true,List.any_eq_true,AJ,hc,if_true];constructor;rintro (⟨v,h1,h2⟩|h2);by_cases e:w.1=v.1;rw [Ad e]at h2;right;rw [e];exact h2;rw [Ab e]at h2;exact .inl ⟨v,h1,h2⟩;exact .inr h2;rintro (⟨v,h1,h2⟩|h2);exact .inl ⟨v,h1,by omega⟩;exact .inr h2
theorem Xu {s:List (Nat×Nat)} {w:Nat×Nat}:Ht g (s++[w])=(Ht g s||g.full w):=by unfold Ht;simp
def Q_ (op:Int):Int:=if 18<=op/\op<=23 then 0 else 1
def J6_ {a b c d:Int} (h:a=c) (h':b=d):AV.tup [.int .i64 a,.int .i64 b]=.tup [.int .i64 c,.int .i64 d]:=by rw [h,h']
def xg:VC:=⟨⟨[],[]⟩,[],[],0,true,[]⟩
def nf:VT:=Iq 64 9 65 (.done (J 3))<|Iq 64 10 66 (.done (J 3))<|Iq 64 11 67 (.done (J 2))<|Iq 64 12 68 (.done (J 2))<|.done (J 4)
def yP:VC:=⟨⟨[],[]⟩,[(112,[none])],[],0,true,[]⟩
def iI:VT:=Iq 66 2 73 (Li Z7 [68,65] 74<|.done (74))<|Iq 66 18 74 (Li Z7 [68,65] 75<|.done (75))<|Iq 66 3 75 (Li Qr [68,69] 76<|Li Zu [76,65] 77<|.done (77))<|Iq 66 19 76 (Li Qr [68,69] 77<|Li Zu [77,65] 78<|.done (78))<|Iq 66 22 77 (.call 112 [67] 78 [none]<|Li Qr [68,78] 79<|Li Zu [79,65] 80<|.done (80))<|Iq 66 20 78 (Li Qi [64] 79<|Li Z7 [68,79] 80<|.done (80))<|Iq 66 21 79 (Li Qi [64] 80<|Li Z7 [68,80] 81<|.done (81))<|.done (.bool false)
def c62:VC:=⟨⟨[],[]⟩,[(63,[none])],[],0,true,[]⟩
def yj:VT:=.call 63 [.agg (Af 64 7)] 71 [none]<|Li Q6 [71] 72<|.done (72)
def sV:VC:=⟨⟨[],[]⟩,[(65,[none])],[],0,true,[]⟩
def nO:VT:=.call 65 [71,72,.agg (Af 64 7)] 73 [none]<|.done (73)
def Yx:VC:=⟨⟨[],[]⟩,[(62,[none])],[(0,[⟨[(8,.slx 0 0 0),(0,64),(1,.fn 62 []),(7,65)],[],0,1,[],[],[]⟩])],0,true,[]⟩
def gK:VT:=Li Qi [64] 65<|.loop 66 0 [J 0] (.cons 1 (It Q5 [66,65] 67 (Li Qk [64,66] 68<|.lt Qy [68] 69 (some 7)<|.call 62 [.agg (Af 69 7)] 76 [none]<|.ite 76 (.done (66))<|Li Q3 [66,J 1] 77<|.again 0 0 [77])<|.done (.int .i64 (-1))) .nil)
def WL:VC:=⟨⟨[],[]⟩,[(64,[none])],[(0,[⟨[(8,.slx 0 0 0),(0,64),(1,.fn 64 [.vptr [65],.vptr [66]]),(7,67)],[],0,1,[],[],[]⟩])],0,true,[]⟩
def kZ:VT:=Li Qi [64] 67<|.loop 68 0 [J 0] (.cons 1 (It Q5 [68,67] 69 (Li Qk [64,68] 70<|.lt Qy [70] 71 (some 7)<|.call 64 [.agg (Af 71 7),.vptr [65],.vptr [66]] 78 [none]<|.ite 78 (.done (68))<|Li Q3 [68,J 1] 79<|.again 0 0 [79])<|.done (.int .i64 (-1))) .nil)
def xf:VC:=⟨⟨[],[]⟩,[(104,[none])],[],0,true,[]⟩
def hU:VT:=.call 104 [64,.fn 62 []] 65 [none]<|Li Q4 [65,J 0] 66<|.done (66)
def ry:VC:=⟨⟨[],[]⟩,[(104,[none])],[],0,true,[]⟩
def l9:VT:=.call 104 [64,.fn 64 [.vptr [65],.vptr [66]]] 67 [none]<|Li Q4 [67,J 0] 68<|.done (68)
def H2_:VC:=⟨⟨[],[]⟩,[],[],0,true,[]⟩
def i7:VT:=Iq 64 1 71 (Dn [J 1])<|Iq 64 2 72 (Dn [J 1])<|Iq 64 3 73 (.done (.tup [J 1,J 1]))<|Iq 64 17 74 (.done (.tup [J 1,J 1]))<|Iq 64 15 75 (.done (.tup [J 1,J 1]))<|Iq 64 16 76 (.done (.tup [J 1,J 1]))<|Iq 64 18 77 (.done (.tup [J 1,J 0]))<|Iq 64 21 78 (.done (.tup [J 1,J 0]))<|Iq 64 19 79 (.done (.tup [J 2,J 0]))<|Iq 64 22 80 (.done (.tup [67,J 0]))<|Iq 64 20 81 (Dn [J 0])<|Iq 64 23 82 (Dn [J 0])<|.done (.tup [J 2,J 1])
def H3_:VC:=⟨⟨[],[]⟩,[],[],0,true,[]⟩
def dP:VT:=Iq 64 23 72 (.done (.nsl))<|Iq 64 20 73 (.done (.vsl 1 1 [66]))<|Iq 64 21 74 (Li Q3 [71,J 1] 75<|.done (.vsl 2 1 [66,75]))<|Li Q3 [71,J 1] 75<|.done (.vsl 1 1 [75])
def GI.May (g:GI):Prop:=EI g.op g.kd g.ad g.n g.vk g.vi g.vf
instance (g:GI):Decidable g.May:=by unfold GI.May;infer_instance
def Pv (op kd ad n len cells:Int):Prop:=(op=2\/op=18->ad<cells)/\(op=3\/op=19->ad+n<=cells)/\(op=22->ad+N9 kd<=cells)/\(op=20\/op=21->ad<len)
instance (op kd ad n len cells:Int):Decidable (Pv op kd ad n len cells):=by unfold Pv;infer_instance
def GI.Plc (g:GI) (len:Nat) (cells:Int):Prop:=Pv g.op g.kd g.ad g.n len cells
instance (g:GI) (len:Nat) (cells:Int):Decidable (g.Plc len cells):=by unfold GI.Plc;infer_instance
def QC {op kd ad n vk vi:Int} {vf:Nat} (h:EI op kd ad n vk vi vf):1<=op/\op<=23/\0<=ad/\ad<=399/\0<=n/\n<=8/\(op=22->6<=kd/\kd<=12):=by unfold EI at h;rcases h with h|⟨h0,_,_,_,h⟩;omega;omega
def Vj (k:Int):Int:=if k=9\/k=10 then 3 else if k=11\/k=12 then 2 else 4
def Jt_ (k:Int):AQ 112 [.int .i64 k] (.int .i64 (Vj k)):=by
 refine BV [none] [.int .i64 k] xg nf rfl rfl rfl rfl rfl (by kernel_rfl) λY hf hg=>?_;unfold nf;repeat' (refine i_ rfl rfl ?_ ?_<;>intro h<;>simp only [nc]at h<;>try omega)
 all_goals exact As (iK (by unfold Vj;(repeat' split)<;>omega))
def E2_ {k:Int} (h:6<=k/\k<=12):Vj k=N9 k:=by
 unfold Vj N9
 (repeat' split)<;>omega
def rH (k:Int):0<=N9 k/\N9 k<=4:=by
 unfold N9
 (repeat' split)<;>omega
def OO {l:List GI} {x:AV} (h:SlV n_ 7 l x):(XOp.len 30).run Tryz.prog [x]=some (.int .i64 (l.length:Int)):=h.len Tryz.underlying30
def vT {l:List GI} {x:AV} (hx:SlV n_ 7 l x) (cells:Int) {g:GI} (hm:g.May):AQ 65 [x,.int .i64 cells,.agg (n_ g)] (.bool (decide (¬g.Plc l.length cells))):=by
 obtain ⟨op,kd,ad,n,vk,vi,vf⟩:=g;have hb:1<=op/\op<=23/\0<=ad/\ad<=399/\0<=n/\n<=8/\(op=22->6<=kd/\kd<=12):=QC hm;have okx:=hx.ok Cx;refine MI (sh:=[none,none,some 7]) (ls:=[x,.int .i64 cells]++n_ ⟨op,kd,ad,n,vk,vi,vf⟩) (c:=yP) (n:=300) (t:=iI) mo ov (by rcases hx with rfl|⟨_,rfl⟩<;>rfl) (by simp only [Bl,Ct,n_,Ak,okC,okx]) rfl (λY _=>Ck _) rfl (by kernel_rfl) λY hf hg=>?_;show AB _ (· =AV.bool (decide (¬Pv op kd ad n l.length cells))) _ _ _;have hw:=rH kd;have hwb:=λh22:op=22=>E2_ (k:=kd) (hb.2.2.2.2.2.2 h22);unfold iI Pv;repeat' first|(refine i_ rfl rfl ?_ ?_<;>intro h<;>simp only [nc]at h<;>try omega)|(refine As (bF ?_);(first|omega|(dsimp only;omega)))|(refine Aa (Ba ..) rfl (As (bE ?_));(first|omega|(dsimp only;omega)))|(refine Aa (BF ..) rfl (As (bE ?_));(first|omega|(dsimp only;omega)))|refine Aa (OO hx) rfl ?_|refine Ar (Jt_ kd) rfl rfl ?_|refine Aa (q_ (by first|omega|(dsimp only;omega)) (by first|omega|(dsimp only;omega))) rfl ?_
def p62 (g:GI):AQ 62 [.agg (n_ g)] (.bool (!decide g.May)):=by refine BV [some 7] (n_ g) c62 yj rfl (Cx _) rfl rfl rfl (by kernel_rfl) λY hf hg=>?_;exact Ar (rk g) rfl rfl (Aa (Ib ..) rfl (As rfl))
def zd {l:List GI} {x:AV} (hx:SlV n_ 7 l x) (cells:Int) {g:GI} (hm:g.May):AQ 64 [.agg (n_ g),.vptr [x],.vptr [.int .i64 cells]] (.bool (decide (¬g.Plc l.length cells))):=by have okx:=hx.ok Cx;refine EY (args':=[.agg (Af 64 7),.vptr [.sym 71],.vptr [.sym 72]]) (ls:=n_ g++[x,.int .i64 cells]) (c:=sV) (n:=300) (m:=73) (t:=nO) mo ov (by simp only [Gt,Sx.okI,Ak,okC,okx,n_]) rfl (by simp only [Bl,Ct,n_,Ak,okC,okx]) rfl (λY hf=>rfl) (λY _=>Ck _) rfl (by kernel_rfl) λY hf hg=>?_;unfold nO;exact Ar (vT hx cells hm) rfl (by simp only [Ak,okC,Sx.okI,okx,n_]) (As rfl)
theorem V_:∀{a:AV},okC a=true->Sx.okI a=true
 | .bool _,_| .int _ _,_| .flt _ _,_| .nan _,_| .str _,_| .nptr,_| .nsl,_| .nmap,_| .nfn,_| .nif,_=>rfl
 | .vptr _,h| .vsl _ _ _,h| .fn _ _,h| .iface _ _,h=>h
def Lp (p:GI->Bool) (l:List GI):Int:=match l.findIdx? p with
 |some i=>(i:Int)
 |none=> -1
def ny (p:GI->Bool) (l:List GI):0<=Lp p l↔∃g∈l,p g=true:=by
 unfold Lp;cases h:l.findIdx? p with
 |none=>rw [List.findIdx?_eq_none_iff]at h;constructor;intro h;have h:(0:Int)<= -1:=h;omega;rintro ⟨g,hg,hp⟩;rw [h g hg]at hp;cases hp
 |some i=>rw [List.findIdx?_eq_some_iff_getElem]at h;obtain ⟨hi,hp,_⟩:=h;exact ⟨λ_=>⟨l[i],zd' hi,hp⟩,λ_=>by show (0:Int)<=(i:Int);omega⟩
def dG {p:GI->Bool} {l:List GI} {i:Nat} (hi:i<l.length) (h0:∀j (h:j<l.length),j<i->p l[j]=false) (h1:p l[i]=true):Lp p l=i:=by have:l.findIdx? p=some i:=List.findIdx?_eq_some_iff_getElem.2 ⟨hi,h1,λj hj=>by rw [h0 j (by omega) hj];decide⟩;unfold Lp;rw [this]
def pu {p:GI->Bool} {l:List GI} (h0:∀j (h:j<l.length),p l[j]=false):Lp p l= -1:=by
 have:l.findIdx? p=none:=List.findIdx?_eq_none_iff.2 λg hg=>by obtain ⟨j,hj,rfl⟩:=List.mem_iff_getElem.1 hg;exact h0 j hj
 unfold Lp;rw [this]
def PR {l:List GI} {x:AV} (hx:SlV n_ 7 l x) {i:Nat} (h:i<l.length):(XOp.iaddr 30).run Tryz.prog [x,.int .i64 (i:Int)]=some (.vptr (Ay n_ (l.drop i))):=hx.ia (e:=68) Tryz.underlying30 (ti:=(Tryz.prog.info? 68).get!) (by kernel_rfl) (by kernel_rfl) JO h .i64
def T4 {l:List GI} {i:Nat} (h:i<l.length):(XOp.load 68).run Tryz.prog [.vptr (Ay n_ (l.drop i))]=some (.agg (n_ l[i])):=Bv (ti:=(Tryz.prog.info? 68).get!) Tryz.underlying68 rfl (by kernel_rfl) (by kernel_rfl) JO h
def SD (l:List GI) (i:Nat):okC (.vptr (Ay n_ (l.drop i)))=true:=A5 Cx _
def I1 {l:List GI} {x:AV} (hx:SlV n_ 7 l x) (hl:l.length<=1000000):AQ 104 [x,.fn 62 []] (.int .i64 (Lp (λg=> !decide g.May) l)):=by
 have okx:=hx.ok Cx;refine EY (args':=[.sym 64,.fn 62 []]) (ls:=[x]) (c:=Yx) (n:=300) (m:=65) (t:=gK) mo ov (by simp only [Gt,V_ okx,Sx.okI,Ak]) rfl (by simp only [Ak,okx]) rfl (λY hf=>rfl) (λY _=>Ck _) rfl (by kernel_rfl) λY hf hg=>?_;unfold gK;refine Aa (OO hx) rfl ?_;refine D3 (ι:=Nat) (λi=>[.int .i64 (i:Int)]) (λi=>i<=l.length/\∀j (h:j<l.length),j<i->(!decide (l[j].May))=false) (λi=>l.length-i) 0 ⟨zb' _,λj _ h=>by omega⟩ rfl (λ_ _=>rfl) (λi j _ _ h=>?_) (λi hi=>?_)
 .have h:=(List.cons.inj h).1;injection h with _ h
  omega
 obtain ⟨hi,h0⟩:=hi;refine Aa (Bn ..) rfl (AC rfl (λhlt=>?_) (λhlt=>As (congrArg (AV.int .i64) (pu λj hj=>h0 j hj ?_).symm)));have hlt:(i:Int)<(l.length:Int):=dT hlt;have hlt:i<l.length:=(by omega);refine Aa (PR hx hlt) (SD l i) (B3 (T4 hlt) rfl (Cx _) (Ar (p62 l[i]) rfl rfl (AC rfl (λhm=>As (congrArg (AV.int .i64) (dG hlt h0 hm).symm)) (λhm=>Aa (A9 ..) rfl (CX rfl ⟨i+1,⟨hlt,λj hj hji=>?_⟩,?_,?_⟩)))));by_cases e:j=i;subst e;exact hm;exact h0 j hj (by omega);show [AV.int .i64 (IntKind.i64.wrap ((i:Int)+1))]=[AV.int .i64 ((i+1:Nat):Int)];rw [DU (by omega) (by omega)];rfl;omega;have hlt:¬(i:Int)<(l.length:Int):=dF hlt;omega
def I2 {l:List GI} {x:AV} (hx:SlV n_ 7 l x) (hl:l.length<=1000000) (hm:∀g∈l,g.May) (cells:Int):AQ 104 [x,.fn 64 [.vptr [x],.vptr [.int .i64 cells]]] (.int .i64 (Lp (λg=>decide (¬g.Plc l.length cells)) l)):=by
 have okx:=hx.ok Cx;refine EY (args':=[.sym 64,.fn 64 [.vptr [.sym 65],.vptr [.sym 66]]]) (ls:=[x,x,.int .i64 cells]) (c:=WL) (n:=300) (m:=67) (t:=kZ) mo ov (by simp only [Gt,V_ okx,Sx.okI,Ak,okC,okx]) rfl (by simp only [Ak,okC,okx]) rfl (λY hf=>rfl) (λY _=>Ck _) rfl (by kernel_rfl) λY hf hg=>?_;unfold kZ;refine Aa (OO hx) rfl ?_;refine D3 (ι:=Nat) (λi=>[.int .i64 (i:Int)]) (λi=>i<=l.length/\∀j (h:j<l.length),j<i->decide (¬(l[j].Plc l.length cells))=false) (λi=>l.length-i) 0 ⟨zb' _,λj _ h=>by omega⟩ rfl (λ_ _=>rfl) (λi j _ _ h=>?_) (λi hi=>?_)
 .have h:=(List.cons.inj h).1;injection h with _ h
  omega
 obtain ⟨hi,h0⟩:=hi;refine Aa (Bn ..) rfl (AC rfl (λhlt=>?_) (λhlt=>As (congrArg (AV.int .i64) (pu λj hj=>h0 j hj ?_).symm)));have hlt:(i:Int)<(l.length:Int):=dT hlt;have hlt:i<l.length:=(by omega);refine Aa (PR hx hlt) (SD l i) (B3 (T4 hlt) rfl (Cx _) (Ar (zd hx cells (hm _ (zd' hlt))) rfl (by simp only [Ak,okC,Sx.okI,okx,n_]) (AC rfl (λhm=>As (congrArg (AV.int .i64) (dG hlt h0 hm).symm)) (λhm=>Aa (A9 ..) rfl (CX rfl ⟨i+1,⟨hlt,λj hj hji=>?_⟩,?_,?_⟩)))));by_cases e:j=i;subst e;exact hm;exact h0 j hj (by omega);show [AV.int .i64 (IntKind.i64.wrap ((i:Int)+1))]=[AV.int .i64 ((i+1:Nat):Int)];rw [DU (by omega) (by omega)];rfl;omega;have hlt:¬(i:Int)<(l.length:Int):=dF hlt;omega
def C1 {l:List GI} {x:AV} (hx:SlV n_ 7 l x) (hl:l.length<=1000000):AQ 61 [x,.fn 62 []] (.bool (decide (¬∀g∈l,g.May))):=by have okx:=hx.ok Cx;refine EY (args':=[.sym 64,.fn 62 []]) (ls:=[x]) (c:=xf) (n:=300) (m:=65) (t:=hU) mo ov (by simp only [Gt,V_ okx,Sx.okI,Ak]) rfl (by simp only [Ak,okx]) rfl (λY hf=>rfl) (λY _=>Ck _) rfl (by kernel_rfl) λY hf hg=>?_;unfold hU;refine Ar (I1 hx hl) rfl (by simp only [Ak,okC,V_,okx]) (Aa (Ba ..) rfl (As (bE ((ny _ l).trans ?_))));constructor;rintro ⟨g,hg,h⟩ ha;simp [ha g hg]at h;intro h;apply Classical.byContradiction;intro hn;exact h λg hg=>Classical.byContradiction λhm=>hn ⟨g,hg,by simp [hm]⟩
def C2 {l:List GI} {x:AV} (hx:SlV n_ 7 l x) (hl:l.length<=1000000) (hm:∀g∈l,g.May) (cells:Int):AQ 61 [x,.fn 64 [.vptr [x],.vptr [.int .i64 cells]]] (.bool (decide (¬∀g∈l,g.Plc l.length cells))):=by have okx:=hx.ok Cx;refine EY (args':=[.sym 64,.fn 64 [.vptr [.sym 65],.vptr [.sym 66]]]) (ls:=[x,x,.int .i64 cells]) (c:=ry) (n:=300) (m:=67) (t:=l9) mo ov (by simp only [Gt,V_ okx,Sx.okI,Ak,okC,okx]) rfl (by simp only [Ak,okC,okx]) rfl (λY hf=>rfl) (λY _=>Ck _) rfl (by kernel_rfl) λY hf hg=>?_;unfold l9;refine Ar (I2 hx hl hm cells) rfl (by simp only [Ak,okC,V_,okx]) (Aa (Ba ..) rfl (As (bE ((ny _ l).trans ?_))));constructor;rintro ⟨g,hg,h⟩ ha;simp [ha g hg]at h;intro h;apply Classical.byContradiction;intro hn;exact h λg hg=>Classical.byContradiction λhm=>hn ⟨g,hg,by simp [hm]⟩
def C_ (g:GI) (a:Nat):List Nat:=if g.op=23 then []else if g.op=20 then [g.ad.toNat]else if g.op=21 then [g.ad.toNat,a+1]else [a+1]
def H5 (a:Nat):List AV:=[.int .i64 (a:Int)]
def zZ (a:Nat):(H5 a).length=1:=rfl
theorem Ty (a:Nat):Ak (H5 a)=true:=rfl
def Ju_ {g:GI} (hm:g.May):AQ 113 [.agg (n_ g)] (.tup [.int .i64 (j_ g:Int),.int .i64 (Q_ g.op)]):=by
 obtain ⟨op,kd,ad,n,vk,vi,vf⟩:=g;have hb:1<=op/\op<=23/\0<=ad/\ad<=399/\0<=n/\n<=8/\(op=22->6<=kd/\kd<=12):=QC hm;refine BV [some 7] (n_ ⟨op,kd,ad,n,vk,vi,vf⟩) H2_ i7 rfl (Cx _) rfl rfl rfl (by kernel_rfl) λY hf hg=>?_;unfold i7;repeat' (refine i_ rfl rfl ?_ ?_<;>intro h<;>simp only [nc]at h<;>try omega)
 all_goals exact As (J6_ (by unfold j_;simp only;(repeat' split)<;>omega) (by unfold Q_;simp only;split<;>omega))
def wO {g:GI} (hm:g.May) {a:Nat} (ha:a<=1000000):AQ 114 [.agg (n_ g),.int .i64 (a:Int)] (Cr H5 1 (C_ g a)):=by
 obtain ⟨op,kd,ad,n,vk,vi,vf⟩:=g;have hb:1<=op/\op<=23/\0<=ad/\ad<=399/\0<=n/\n<=8/\(op=22->6<=kd/\kd<=12):=QC hm;have had:((ad.toNat:Nat):Int)=ad:=Int.toNat_of_nonneg (by omega);have e1:IntKind.i64.wrap ((a:Int)+1)=((a+1:Nat):Int):=by rw [DU (by omega) (by omega)];rfl
 refine BV [some 7,none] (n_ ⟨op,kd,ad,n,vk,vi,vf⟩++[.int .i64 (a:Int)]) H3_ dP rfl rfl (Mc (SK Ty _)) rfl rfl (by kernel_rfl) λY hf hg=>?_;unfold dP;repeat' (refine i_ rfl rfl ?_ ?_<;>intro h<;>simp only [nc]at h<;>try omega)
 refine As ?_;rw [show C_ ⟨op,kd,ad,n,vk,vi,vf⟩ a=[] from Ad h];rfl;refine As ?_;rw [show C_ ⟨op,kd,ad,n,vk,vi,vf⟩ a=[ad.toNat] from by unfold C_;rw [Ab (by assumption),Ad h]];show AV.vsl 1 1 [.int .i64 ad]=.vsl 1 1 [.int .i64 (ad.toNat:Int)];rw [had];refine Aa (A9 ..) rfl (As ?_);rw [show C_ ⟨op,kd,ad,n,vk,vi,vf⟩ a=[ad.toNat,a+1] from by unfold C_;rw [Ab (by assumption),Ab (by assumption),Ad h]];show AV.vsl 2 1 [.int .i64 ad,.int .i64 (IntKind.i64.wrap ((a:Int)+1))]=.vsl 2 1 [.int .i64 (ad.toNat:Int),.int .i64 ((a+1:Nat):Int)];rw [had,e1];refine Aa (A9 ..) rfl (As ?_);rw [show C_ ⟨op,kd,ad,n,vk,vi,vf⟩ a=[a+1] from by unfold C_;rw [Ab (by assumption),Ab (by assumption),Ab h]];show AV.vsl 1 1 [.int .i64 (IntKind.i64.wrap ((a:Int)+1))]=.vsl 1 1 [.int .i64 ((a+1:Nat):Int)];rw [e1]
def c66:VC:=⟨⟨[],[]⟩,[(113,[none,none]),(114,[none])],[(0,[⟨[(4,.map 0),(3,.slx 0 0 0),(5,.map 1),(0,64),(6,.slx 2 2 1),(2,.slx 2 0 0)],[],3,5,[⟨2,2,1,6,none⟩],[(0,3),(1,4)],[]⟩]),(2,[⟨[(81,.slx 0 0 0),(10,.slx 1 0 0),(6,.slx 2 2 2),(79,.slx 3 0 0),(4,.map 0),(3,.slx 4 0 0),(5,.map 1),(0,64),(2,67),(80,.slx 5 0 0)],[],3,8,[⟨2,2,2,6,none⟩],[(0,6),(1,7)],[]⟩])],0,true,[]⟩
def kz:VT:=.loop 65 0 [.bool false,.vsl 1 2 [J 0,J 0],.bool false,.vsl 0 2 [],.vsl 0 2 []] (.cons 5 (Li (.len 177) [66] 70<|It Qb [70,J 0] 71 (Li (.len 177) [66] 72<|Li Qj [72,J 1] 73<|Li Q2 [66,73] 74<|.lt (.ldx 176 2 0) [66,74] 75 (some 2)<|Li (.len 177) [66] 77<|Li Qj [77,J 1] 78<|Li .tkx [66,66,78] 79<|It (.mlk 173) [68,.agg [75,76]] 80 (.again 0 0 [65,79,67,68,69])<|Li (.mpu 173) [68,.agg [75,76],.bool true] 81<|Li (.mlk 174) [69,75] 82<|Li Q3 [82,J 1] 83<|Li (.mput 174) [69,75,83] 84<|.ite 65 (Li Qk [64,75] 85<|.lt Qy [85] 86 (some 7)<|.call 113 [.agg (Af 86 7)] 93 [none,none]<|Li Zg [76,93] 95<|Li Qr [95,94] 96<|It Q5 [76,93] 97 (.again 0 0 [.bool true,79,.bool true,81,84])<|It Qb [96,J 16] 98 (.again 0 0 [.bool true,79,.bool true,81,84])<|Li Qk [64,75] 99<|.lt Qy [99] 100 (some 7)<|.call 114 [.agg (Af 100 7),75] 107 [none]<|Li Qf [107] 108<|.loop 109 0 [J 0,96,79,107,.bool true,108,81,84] (.cons 8 (It Q5 [109,114] 117 (Li (.iaddr 74) [112,109] 118<|Li Qn [118] 119<|Li Za [111,.agg [119,110]] 120<|Li Q3 [109,J 1] 121<|.again 1 0 ([121,110,120]++Af 112 5))<|.again 0 0 [113,111,67,115,116]) .nil))<|Li (.mlk 174) [84,75] 85<|Li Qb [85,J 1] 86<|Li Qk [64,75] 87<|.lt Qy [87] 88 (some 7)<|.call 113 [.agg (Af 88 7)] 95 [none,none]<|Li Zg [76,95] 97<|Li Qr [97,96] 98<|It Q5 [76,95] 99 (.again 0 0 [86,79,.bool true,81,84])<|It Qb [98,J 16] 100 (.again 0 0 [86,79,.bool true,81,84])<|Li Qk [64,75] 101<|.lt Qy [101] 102 (some 7)<|.call 114 [.agg (Af 102 7),75] 109 [none]<|Li Qf [109] 110<|.loop 111 0 [J 0,98,79,109,86,110,81,84] (.cons 8 (It Q5 [111,116] 119 (Li (.iaddr 74) [114,111] 120<|Li Qn [120] 121<|Li Za [113,.agg [121,112]] 122<|Li Q3 [111,J 1] 123<|.again 1 0 ([123,112,122]++Af 114 5))<|.again 0 0 [115,113,67,117,118]) .nil))<|.done (.tup [67,65])) .nil)
def c30:VC:=⟨⟨[],[]⟩,[(61,[none]),(66,[none,none])],[],0,true,[]⟩
def cZ:VT:=Li Qi [64] 66<|Iq 66 0 67 (.done (J 2))<|Li Qi [64] 68<|It Qb [68,J 400] 69 (.done (J 2))<|.call 61 [64,.fn 62 []] 70 [none]<|.ite 70 (.done (J 2))<|Li Qi [64] 71<|Li Qj [71,J 1] 72<|Li Qk [64,72] 73<|Li Z4 [73] 74<|Li Qn [74] 75<|It Q1 [75,J 23] 76 (.done (J 2))<|.call 61 [64,.fn 64 [.vptr [64],.vptr [65]]] 77 [none]<|.ite 77 (.done (J 6))<|.call 66 [64] 78 [none,none]<|.ite 78 (.done (J 12))<|.ite 79 (.done (J 4))<|.done (J 0)
theorem P5 {P:Program} {α β:Type} (f:α->Sem β) (s:Sem α):Cp P (s >>= f)=match Cp P s with|some a=>Cp P (f a)|none=>none:=by
 induction s with
 |pure a=>rfl
 |program k ih=>exact ih P
 |mark m k ih=>exact ih
 |_=>rfl
def oa {P:Program} {t:TypeId} {d:TypeDesc} (h:P.underlying t=some d):Cp P (underlying t)=some d:=by show Cp P (match P.underlying t with|some d=>pure d|none=>stuck "no such type")=_;rw [h];rfl
def yE {P:Program} {t:TypeId} {k:IntKind} (h:P.underlying t=some (.int k)) (d:Nat) (a b:Int):Cp P (Op.equalIn (d+1) t (.int .i64 a) (.int .i64 b))=some (a==b):=by unfold Op.equalIn;rw [P5,oa h];rfl
def xC (a b c d:Int):OQ Tryz.prog 176 (.agg [.int .i64 a,.int .i64 b]) (.agg [.int .i64 c,.int .i64 d])=some ((a==c)&&(b==d)):=by
 show Cp Tryz.prog (Op.equalIn (9999+1) 176 (.agg #[.int .i64 a,.int .i64 b]) (.agg #[.int .i64 c,.int .i64 d]))=_;unfold Op.equalIn;rw [P5,oa Tryz.underlying176];have h1:Tryz.prog.stoodInHeld 176=false:=by kernel_rfl
 have q0:∀x y:Int,Cp Tryz.prog (part 3 #[.int .i64 x,.int .i64 y] 0)=some (.int .i64 x):=λx y=>by kernel_rfl
 have q1:∀x y:Int,Cp Tryz.prog (part 3 #[.int .i64 x,.int .i64 y] 1)=some (.int .i64 y):=λx y=>by kernel_rfl
 have e9:∀x y:Int,Cp Tryz.prog (Op.equalIn 9999 3 (.int .i64 x) (.int .i64 y))=some (x==y):=λx y=>yE Tryz.underlying3 9998 x y;have hp:Cp Tryz.prog program=some Tryz.prog:=rfl;have hpu:∀{α:Type} (x:α),Cp Tryz.prog (pure x)=some x:=λx=>rfl;simp only [P5,hp,h1,Bool.false_eq_true,if_false,List.forIn_toArray,List.forIn_cons,List.forIn_nil];simp [P5,q0,q1,e9,hpu];by_cases h:a=c;subst h;simp [P5,q0,q1,e9,hpu];by_cases h:b=d;subst h;simp [hpu];simp [hpu,h];simp [hpu,h]
def s_ (x:Nat×Nat):List AV:=[.int .i64 (x.1:Int),.int .i64 (x.2:Int)]
theorem Sf (x:Nat×Nat):(s_ x).length=2:=rfl
theorem OZ (x:Nat×Nat):Ak (s_ x)=true:=rfl
def DQ (w:Nat×Nat):List AV:=[.iface 0 (.agg (s_ w)),.bool true]
def lL (a b:Int):I9 Tryz.prog 176 (.agg [.int .i64 a,.int .i64 b])=true:=by kernel_rfl
theorem iQ (w q:Nat×Nat):OQ Tryz.prog 176 (.agg (s_ w)) (.agg (s_ q))=some (decide (w=q)):=by refine (xC ..).trans (congrArg some ?_);rw [Bool.eq_iff_iff];simp only [Bool.and_eq_true,beq_iff_eq,AJ,Prod.ext_iff];omega
theorem WT (w:Nat×Nat):∀(s:List (Nat×Nat)) (i:Nat),(w∈s->∃j,Fs Tryz.prog 176 (.agg (s_ w)) (Eg (Ay DQ s)) i=some (some (j,.agg (s_ w),.bool true)))/\(w∉s->Fs Tryz.prog 176 (.agg (s_ w)) (Eg (Ay DQ s)) i=some none)
 |[],i=>⟨λh=>(za' h).elim,λ_=>rfl⟩
 |q::s,i=>by have e:Eg (Ay DQ (q::s))=(.agg (s_ q),.bool true,0)::Eg (Ay DQ s):=rfl;have ih:=WT w s (i+1);rw [e];unfold Fs;rw [iQ];by_cases h:w=q;subst h;rw [AX rfl];exact ⟨λ_=>⟨i,rfl⟩,λhn=>absurd (zg' ..) hn⟩;rw [Bk h];exact ⟨λhm=>ih.1 ((List.mem_cons.1 hm).resolve_left h),λhn=>ih.2 λhm=>hn (zc' _ hm)⟩
def YI (s:List (Nat×Nat)) (w:Nat×Nat):(XOp.mlk 173).run Tryz.prog [BG DQ 2 s,.agg (s_ w)]=some (.bool (decide (w∈s))):=by show EU Tryz.prog ((⟨AD,0,0⟩:AHeap).set 0 (.map (Eg (Ay DQ s)) 0)) 173 (.map 0) (.agg (s_ w)) false=_;unfold EU;simp only [Tryz.underlying173,Tryz.underlying176];show LF Tryz.prog _ 176 4 _ (.map 0) (.agg (s_ w)) false=_;unfold LF;have hc:I9 Tryz.prog 176 (.agg (s_ w))=true:=lL _ _;have hg:((⟨AD,0,0⟩:AHeap).set 0 (.map (Eg (Ay DQ s)) 0)).get 0=some (.map (Eg (Ay DQ s)) 0):=rfl;obtain ⟨ti,hi,hz⟩:∃ti,Tryz.prog.info? 4=some ti/\ti.zero=some (.bool false):=⟨(Tryz.prog.info? 4).get!,by kernel_rfl,by kernel_rfl⟩;simp only [Ix,hc,Bool.and_self,hi,hz,hg];by_cases h:w∈s;obtain ⟨j,hj⟩:=(WT w s 0).1 h;simp only [hj,AX h];rfl;simp only [(WT w s 0).2 h,Bk h];rfl
theorem lx (w:Nat×Nat):∀(s:List (Nat×Nat)),w∉s->KQ Tryz.prog 176 (.agg (s_ w)) (.bool true) (Ay DQ s)=some (Ay DQ (s++[w]))
 |[],_=>rfl
 |q::s,h=>by have ih:=lx w s λhm=>h (zc' _ hm);have hq:¬w=q:=λe=>h (e▸zg' ..);show KQ Tryz.prog 176 (.agg (s_ w)) (.bool true) (.iface 0 (.agg (s_ q))::.bool true::Ay DQ s)=_;unfold KQ;rw [show Ku (.iface 0 (.agg (s_ q)))=.agg (s_ q) from rfl,iQ,Bk hq];simp only [ih];rfl
def ic (w:Nat×Nat):(DQ w).length=2:=rfl
def sZ (s:List (Nat×Nat)) (w:Nat×Nat) (h:w∉s):(XOp.mpu 173).run Tryz.prog [BG DQ 2 s,.agg (s_ w),.bool true]=some (BG DQ 2 (s++[w])):=by
 have hc:I9 Tryz.prog 176 (.agg (s_ w))=true:=lL _ _;have hl:(Ay DQ s).length=s.length*2:=EC ic s;have hl2:(Ay DQ (s++[w])).length=(s.length+1)*2:=by rw [EC ic];simp
 unfold XOp.run BG;simp only [Tryz.underlying173,Tryz.underlying176,Ix,hc,Bool.and_self,lx w s h,BW,hl,hl2];have e1:Nat.beq (Nat.mul s.length 2) (s.length*2)=true:=zh' _;have e2:Nat.div ((s.length+1)*2) 2=(s++[w]).length:=by show (s.length+1)*2/2=_;rw [Nat.mul_div_cancel _ (by decide)];simp
 simp only [e1,e2,Nat.beq_refl];rfl
def Gf:List (Nat×Nat)->Nat->Nat->List (Nat×Nat)
 |[],a,c=>[(a,c)]
 |q::r,a,c=>if a=q.1 then (q.1,c)::r else q::Gf r a c
def BS:List (Nat×Nat)->Nat->Nat
 |[],_=>0
 |q::r,a=>if a=q.1 then q.2 else BS r a
theorem X4 (a c b:Nat):∀H:List (Nat×Nat),BS (Gf H a c) b=if b=a then c else BS H b
 |[]=>rfl
 |q::r=>by by_cases h:a=q.1;simp only [Gf,Ad h,BS];by_cases hb:b=q.1;rw [Ad hb,Ad (hb.trans h.symm)];rw [Ab hb,Ab (λe=>hb (e.trans h)),Ab hb];simp only [Gf,Ab h,BS,X4 a c b r];by_cases hb:b=q.1;rw [Ad hb,Ab (λe=>h (e.symm.trans hb)),Ad hb];rw [Ab hb,Ab hb]
theorem jn (a b:Nat):JC (.int .i64) (.int .i64 (a:Int)) (.int .i64 (b:Int))=some (decide (a=b)):=by
 show some (I7 (a:Int) (b:Int))=_;rw [KW]
 congr 1
 rw [Bool.eq_iff_iff];simp only [beq_iff_eq,AJ];omega
theorem mP (a c:Nat):∀H:List (Nat×Nat),KL (.int .i64) (.int .i64 (a:Int)) (.int .i64 (c:Int)) (Ay s_ H)=some (Ay s_ (Gf H a c))
 |[]=>rfl
 |q::r=>by show KL (.int .i64) (.int .i64 (a:Int)) (.int .i64 (c:Int)) (.int .i64 (q.1:Int)::.int .i64 (q.2:Int)::Ay s_ r)=_;unfold KL;rw [jn];by_cases h:a=q.1;rw [AX h];simp only [Gf,Ad h];rfl;rw [Bk h];simp only [mP a c r,Gf,Ab h];rfl
def P3 (a:Nat):∀(H:List (Nat×Nat)) (i:Nat),FA (.int .i64) (.int .i64 (a:Int)) (Eg (Ay s_ H)) i=some none/\BS H a=0\/∃j,FA (.int .i64) (.int .i64 (a:Int)) (Eg (Ay s_ H)) i=some (some (j,.int .i64 (BS H a:Int)))
 |[],i=>.inl ⟨rfl,rfl⟩
 |q::r,i=>by have e:Eg (Ay s_ (q::r))=(.int .i64 (q.1:Int),.int .i64 (q.2:Int),0)::Eg (Ay s_ r):=rfl;rw [e];unfold FA;rw [jn];by_cases h:a=q.1;rw [AX h];simp only [BS,Ad h];exact .inr ⟨i,rfl⟩;rw [Bk h];simp only [BS,Ab h];exact P3 a r (i+1)
def lW (H:List (Nat×Nat)) (a:Nat):(XOp.mlk 174).run Tryz.prog [BG s_ 2 H,.int .i64 (a:Int)]=some (.int .i64 (BS H a:Int)):=by show EU Tryz.prog ((⟨AD,0,0⟩:AHeap).set 0 (.map (Eg (Ay s_ H)) 0)) 174 (.map 0) (.int .i64 (a:Int)) false=_;have hg:((⟨AD,0,0⟩:AHeap).set 0 (.map (Eg (Ay s_ H)) 0)).get 0=some (.map (Eg (Ay s_ H)) 0):=rfl;obtain ⟨ti,hi,hz⟩:∃ti,Tryz.prog.info? 3=some ti/\ti.zero=some (.int .i64 0):=⟨(Tryz.prog.info? 3).get!,by kernel_rfl,by kernel_rfl⟩;unfold EU;simp only [Tryz.underlying174,Tryz.underlying3,Ih,hi,hz,hg];rcases P3 a H 0 with ⟨h1,h2⟩|⟨j,h⟩;simp only [h1,h2];rfl;simp only [h];rfl
def xH (H:List (Nat×Nat)) (a c:Nat):(XOp.mput 174).run Tryz.prog [BG s_ 2 H,.int .i64 (a:Int),.int .i64 (c:Int)]=some (BG s_ 2 (Gf H a c)):=by have hl:∀H:List (Nat×Nat),(Ay s_ H).length=H.length*2:=λH=>EC Sf H;unfold XOp.run BG ar;simp only [Tryz.underlying174,Tryz.underlying3,Ih,mP,BW,hl];have e1:Nat.beq (Nat.mul H.length 2) (H.length*2)=true:=zh' _;have e2:Nat.div ((Gf H a c).length*2) 2=(Gf H a c).length:=Nat.mul_div_cancel _ (by decide);simp only [e1,e2,Nat.beq_refl,Bool.and_self]
theorem ZC (w:Nat×Nat):Ak (DQ w)=true:=rfl
def D6 (s:List (Nat×Nat)):List (Nat×Nat):=s.foldl (λH w=>Gf H w.1 (BS H w.1+1)) []
def rO (s:List (Nat×Nat)) (w:Nat×Nat):D6 (s++[w])=Gf (D6 s) w.1 (BS (D6 s) w.1+1):=by unfold D6;rw [List.foldl_append];rfl
def pL (a:Nat):∀(s H:List (Nat×Nat)),BS (s.foldl (λH w=>Gf H w.1 (BS H w.1+1)) H) a=BS H a+Da s a
 |[],H=>rfl
 |w::s,H=>by rw [List.foldl_cons,pL a s,X4];unfold Da;rw [List.countP_cons];by_cases h:a=w.1;subst h;simp;omega;have:¬((w.1==a)=true):=(by simpa using λe:w.1=a=>h e.symm);rw [Ab h,Ab this];omega
theorem cB (s:List (Nat×Nat)) (a:Nat):BS (D6 s) a=Da s a:=by have:=pL a s [];unfold D6;rw [this];show 0+Da s a=_;omega
def qS (s:List (Nat×Nat)) (a:Nat):Da s a<=s.length:=List.countP_le_length
def YR (l:List (Nat×Nat)):(XOp.len 177).run Tryz.prog [BG s_ 2 l]=some (.int .i64 (l.length:Int)):=(SlV.v (enc:=s_) (w:=2) l).len Tryz.underlying177
def ca {α:Type} {enc:α->List AV} {w:Nat} {l:List α} (h:l≠[]):BG enc w l=Cr enc w l:=by
 cases l with
 |nil=>exact absurd rfl h
 |cons a r=>rfl
def I7_ {l:List (Nat×Nat)} {i:Nat} (hi:i<l.length):(XOp.inb).run Tryz.prog [BG s_ 2 l,.int .i64 (i:Int)]=some (.int .i64 (i:Int)):=by
 have hne:l≠[]:=λe=>by rw [e]at hi;exact absurd hi (zi' _)
 rw [ca hne];exact NP hi .i64
def ww {l:List (Nat×Nat)} {i:Nat} (hi:i<l.length):(XOp.ldx 176 2 0).run Tryz.prog [BG s_ 2 l,.int .i64 (i:Int)]=some (.agg (s_ l[i])):=by
 have hne:l≠[]:=λe=>by rw [e]at hi;exact absurd hi (zi' _)
 rw [ca hne];exact Fc (ti:=(Tryz.prog.info? 176).get!) Tryz.underlying176 rfl (by kernel_rfl) (by kernel_rfl) Sf hi .i64
def tkQ (l:List (Nat×Nat)) {i:Nat} (hi:i<=l.length):(XOp.tkx).run Tryz.prog [BG s_ 2 l,BG s_ 2 l,.int .i64 (i:Int)]=some (BG s_ 2 (l.take i)):=by
 have h:=Lm (Ay s_ (l.take i)) (Ay s_ (l.drop i));rw [←Kf,List.take_append_drop,EC Sf]at h;have hlen:(l.take i).length=i:=by rw [List.length_take];omega
 rw [hlen]at h;have hb:(Nat.beq 2 2&&(Nat.ble i l.length&&Nat.ble i l.length))=true:=by simp [hi]
 show (match Nat.beq 2 2&&(Nat.ble i l.length&&Nat.ble i l.length)with
  |true=>match CN (Nat.mul i 2) (Ay s_ l)with
   |some cs'=>some (AV.vsl i 2 cs')
   |none=>none
  |false=>none)=_
 rw [hb];have h':CN (Nat.mul i 2) (Ay s_ l)=some (Ay s_ (l.take i)):=h;simp only [h'];unfold BG;rw [hlen]
def ue (l:List (Nat×Nat)) (b h:Nat) (hl:l.length<=1000000):(XOp.app 2 16).run Tryz.prog [BG s_ 2 l,.agg [.int .i64 (b:Int),.int .i64 (h:Int)]]=some (BG s_ 2 (l++[(b,h)])):=by
 have hn:Nat.div (Bp (s_ (b,h))) 2=1:=by rw [BW,Sf]
 show En 2 16 (BG s_ 2 l) (Nat.div (Bp (s_ (b,h))) 2) (s_ (b,h))=_;rw [hn];have h2:(Ay s_ l).length=l.length*2:=EC Sf l;unfold En BG;have hd:decide ((s_ (b,h)).length=1*2)=true:=rfl;have c1:(Nat.ble (Nat.mul (Nat.add l.length 1) 16) 1073741824&&Nat.ble (Nat.add l.length 1) 1073741824&&Nat.blt 0 16)=true:=by have e:Nat.mul (Nat.add l.length 1) 16=(l.length+1)*16:=rfl;have e2:Nat.add l.length 1=l.length+1:=rfl;rw [e,e2,Nat.ble_eq_true_of_le (by omega),Nat.ble_eq_true_of_le (by omega)];rfl
 simp only [hd,h2,decide_true,and_self,c1,Kf,Ax];rfl
def t_ (l:List GI):WG where
 N:=l.length
 tk:=λa=>match l[a]? with
  |some g=>j_ g
  |none=>0
 lv:=λa=>match l[a]? with
  |some g=>(Q_ g.op).toNat
  |none=>0
 goes:=λa=>match l[a]? with
  |some g=>C_ g a
  |none=>[]
structure D8 (l:List GI) (cells:Int):Prop where
 n1:0<l.length
 n4:l.length<=400
 may:∀g∈l,g.May
 last:∀h:l.length-1<l.length,l[l.length-1].op=23
 plc:∀g∈l,g.Plc l.length cells
theorem D8.ok {l:List GI} {cells:Int} (h:D8 l cells):(t_ l).Ok where
 pos:=h.n1
 inn:=λa ha b hb=>by have ha:a<l.length:=ha;have hb:b∈(match l[a]? with|some g=>C_ g a|none=>[]):=hb;rw [List.getElem?_eq_getElem ha]at hb;have hb:b∈C_ l[a] a:=hb;have hm:=QC (h.may _ (zd' ha));have hp:(l[a].op=20\/l[a].op=21->l[a].ad<(l.length:Int)):=(h.plc _ (zd' ha)).2.2.2;have hn:l[a].op≠23->a+1<l.length:=λhne=>(by apply Classical.byContradiction;intro hc;have:a=l.length-1:=(by omega);subst this;exact hne (h.last ha));show b<l.length;unfold C_ at hb;split at hb;cases hb;split at hb;rw [List.mem_singleton.1 hb];have:=hp (.inl (by assumption));omega;split at hb;rcases List.mem_cons.1 hb with e|hb;rw [e];have:=hp (.inr (by assumption));omega;rw [List.mem_singleton.1 hb];exact hn (by omega);rw [List.mem_singleton.1 hb];exact hn (by assumption)
 two:=λa=>by
  show (match l[a]? with|some g=>C_ g a|none=>[]).length<=2;split
  .unfold C_;repeat' split
   all_goals simp
  simp
def HB_ {l:List GI} {a:Nat} (h:a<l.length):(t_ l).tk a=j_ l[a]:=by show (match l[a]? with|some g=>j_ g|none=>0)=_;rw [List.getElem?_eq_getElem h]
def HA_ {l:List GI} {a:Nat} (h:a<l.length):((t_ l).lv a:Int)=Q_ l[a].op:=by show (((match l[a]? with|some g=>(Q_ g.op).toNat|none=>0):Nat):Int)=_;rw [List.getElem?_eq_getElem h];show (((Q_ l[a].op).toNat:Nat):Int)=_;unfold Q_;split<;>rfl
def ym {l:List GI} {a:Nat} (h:a<l.length):(t_ l).goes a=C_ l[a] a:=by show (match l[a]? with|some g=>C_ g a|none=>[])=_;rw [List.getElem?_eq_getElem h]
def rf {s s':List (Nat×Nat)} (h:BG DQ 2 s=BG DQ 2 s') (w:Nat×Nat):(w∈s)=(w∈s'):=by
 have a:=YI s w;rw [h,YI s' w]at a;injection a with a
 injection a with a
 exact propext (decide_eq_decide.1 a).symm
def sX {g:WG} {s s':List (Nat×Nat)} (h:∀w,(w∈s)=(w∈s')):left g s=left g s':=WD _ λi _=>by unfold Nz;exact decide_eq_decide.2 (by rw [h])
def u9 {l:List Nat} {i:Nat} (h:i<l.length):(XOp.iaddr 74).run Tryz.prog [Cr H5 1 l,.int .i64 (i:Int)]=some (.vptr (Ay H5 (l.drop i))):=(SlV.of (enc:=H5) (w:=1) l).ia (e:=3) Tryz.underlying74 (ti:=(Tryz.prog.info? 3).get!) (by kernel_rfl) (by kernel_rfl) zZ h .i64
def qy (l:List Nat) (i:Nat):okC (.vptr (Ay H5 (l.drop i)))=true:=A5 Ty _
def vm {l:List Nat} {i:Nat} (h:i<l.length):(XOp.load 3).run Tryz.prog [.vptr (Ay H5 (l.drop i))]=some (.int .i64 (l[i]:Int)):=by rw [Cc h];exact NN Tryz.underlying3 rfl _ _
open Classical in
def p66 {l:List GI} {cells:Int} (hF:D8 l cells) {x:AV} (hx:SlV n_ 7 l x):AQ 66 [x] (.tup [.bool (decide (t_ l).Full),.bool (decide (t_ l).Two)]):=by
 have okx:=hx.ok Cx;have hg:=hF.ok;have n4:=hF.n4;refine MI (sh:=[none]) (ls:=[x]) (c:=c66) (n:=300) (t:=kz) mo ov (by rcases hx with rfl|⟨_,rfl⟩<;>rfl) (by simp only [Ak,okx]) rfl (λY _=>Ck _) rfl (by kernel_rfl) λY hf hg'=>?_;unfold kz;refine D3 (ι:=List (Nat×Nat)×List (Nat×Nat)) (λp=>[.bool (U_ p.1),BG s_ 2 p.2,.bool (Ht (t_ l) p.1),BG DQ 2 p.1,BG s_ 2 (D6 p.1)]) (λp=>BR (t_ l) p.1 p.2) (λp=>2*left (t_ l) p.1+p.2.length) ([],[(0,0)]) (BR.begin hg) rfl
  (λp _=>by simp only [Ak,okC,GO OZ,GO ZC]) (λp q _ _ h=>?_) (λp hp=>?_)
 have h2:=(List.cons.inj (List.cons.inj h).2).1;have h4:=(List.cons.inj (List.cons.inj (List.cons.inj (List.cons.inj h).2).2).2).1;have e1:=sX (g:=t_ l) (rf h4);have e2:p.2.length=q.2.length:=(AV.vsl.inj h2).1;rw [e1,e2];obtain ⟨s,td⟩:=p;have hS:BR (t_ l) s td:=hp;refine Aa (YR td) rfl (Aa (BF ..) rfl (AC rfl (λh0=>?_) (λh0=>?_)))
 rotate_left
 have h0:¬(0:Int)<(td.length:Int):=dF h0;have hn:td=[]:=List.length_eq_zero_iff.1 (by omega);subst hn;refine As ?_;show AV.tup [.bool (Ht (t_ l) s),.bool (U_ s)]=_;have e1:Ht (t_ l) s=decide (t_ l).Full:=Bool.eq_iff_iff.2 (hS.full.trans (decide_eq_true_iff).symm);have e2:U_ s=decide (t_ l).Two:=Bool.eq_iff_iff.2 (hS.two.trans (decide_eq_true_iff).symm);rw [e1,e2];have h0:(0:Int)<(td.length:Int):=dT h0;have hlt:td.length-1<td.length:=by omega
 have hsz:=hS.lt;have hN:(t_ l).N=l.length:=rfl;rw [hN]at hsz;have em:IntKind.i64.wrap ((td.length:Int)-1)=((td.length-1:Nat):Int):=by rw [DU (by omega) (by omega)];omega
 obtain ⟨t,ht⟩:∃t,td.take (td.length-1)=t:=⟨_,rfl⟩;obtain ⟨w,hw⟩:∃w,td[td.length-1]=w:=⟨_,rfl⟩;have htd:td=t++[w]:=by rw [←ht,←hw];have:=(List.take_append_drop (td.length-1) td).symm;rw [Cc hlt,List.drop_of_length_le (by omega)]at this;exact this
 have hmem:∀v,v∈td↔v=w\/v∈t:=λv=>by rw [htd,List.mem_append,List.mem_singleton];exact Or.comm
 have hlen:t.length+1=td.length:=by rw [htd,List.length_append];rfl
 have hwt:=hS.rt w ((hmem w).2 (.inl rfl));have hw1:w.1<l.length:=hwt.2.1;have hw2:=hwt.2.2;have hgm:=hF.may _ (zd' hw1);have hmb:=QC hgm;have htk:=HB_ hw1;have hlv:=HA_ hw1;have hgo:=ym hw1;have htk8:j_ l[w.1]<=8:=by unfold j_;(repeat' split)<;>omega
 have hgv:0<=Q_ l[w.1].op/\Q_ l[w.1].op<=1:=by unfold Q_;split<;>omega
 refine Aa (YR td) rfl (Aa (r:=.int .i64 ((td.length-1:Nat):Int)) (by rw [←em];exact Bu ..) rfl (Aa (I7_ hlt) rfl (B3 (ww hlt) rfl (OZ _) ?_)));refine Aa (YR td) rfl (Aa (r:=.int .i64 ((td.length-1:Nat):Int)) (by rw [←em];exact Bu ..) rfl (Aa (tkQ td (i:=td.length-1) (by omega)) (GO OZ _) ?_));rw [ht,hw];refine Aa (YI s w) rfl (AC rfl (λhin=>?_) (λhin=>?_));have hin:w∈s:=dT hin;exact CX rfl ⟨(s,t),hS.seen hmem hlen hin,rfl,by show 2*left (t_ l) s+t.length<2*left (t_ l) s+td.length;omega⟩;have hns:w∉s:=dF hin;have hcnt:Da s w.1<=1000000:=by have h1:=qS s w.1;have h2:=BR.len_le hS;have hN:(t_ l).N=l.length:=rfl;omega
 have hfr:(t_ l).full w=true->BR (t_ l) (s++[w]) t/\2*left (t_ l) (s++[w])+t.length<2*left (t_ l) s+td.length:=λhfull=>by have hnx:(t_ l).nxt w=[]:=(by unfold WG.nxt;rw [Ad hfull]);exact BR.fresh hg hS (w:=w) (t':=t) (t2:=t) hmem hlen hns (λv=>by rw [hnx];simp) (by rw [hnx];rfl)
 have eh:IntKind.i64.wrap ((Da s w.1:Int)+1)=((Da s w.1+1:Nat):Int):=by rw [DU (by omega) (by omega)];rfl
 have hH:=rO s w;rw [cB]at hH;have m1:=lW (D6 s) w.1;rw [cB]at m1;have m2:=xH (D6 s) w.1 (Da s w.1+1);rw [←hH]at m2;have m3:=lW (D6 (s++[w])) w.1;have c3:BS (D6 (s++[w])) w.1=Da s w.1+1:=by rw [hH,X4,Ad rfl]
 rw [c3]at m3;have st_eq:∀{u f:Bool},u=U_ (s++[w])->f=Ht (t_ l) (s++[w])->[AV.bool u,BG s_ 2 t,.bool f,BG DQ 2 (s++[w]),BG s_ 2 (D6 (s++[w]))]=[AV.bool (U_ (s++[w])),BG s_ 2 t,.bool (Ht (t_ l) (s++[w])),BG DQ 2 (s++[w]),BG s_ 2 (D6 (s++[w]))]:=λh1 h2=>by rw [h1,h2]
 refine Aa (sZ s w hns) (GO ZC _) (Aa m1 rfl (Aa (r:=.int .i64 ((Da s w.1+1:Nat):Int)) (by rw [←eh];exact A9 ..) rfl (Aa m2 (GO OZ _) (AC rfl (λhu=>?_) (λhu=>?_)))))
 case' refine_1=>
  have hu:U_ s=true:=hu;have u:true=U_ (s++[w]):=by rw [mQ,hu];rfl
 case' refine_2=>
  have hu:U_ s=false:=hu;have u:decide (1<((Da s w.1+1:Nat):Int))=U_ (s++[w]):=(by rw [mQ,hu,Bool.false_or];exact decide_eq_decide.2 (by omega));refine Aa m3 rfl (Aa (BF ..) rfl ?_)
 all_goals (
            refine Aa (PR hx hw1) (SD l w.1) (B3 (T4 hw1) rfl (Cx _) (Ar (Ju_ hgm) rfl rfl ?_));refine Aa (r:=.int .i64 ((w.2:Int)-(j_ l[w.1]:Int))) (by rw [←DU (x:=(w.2:Int)-(j_ l[w.1]:Int)) (by omega) (by omega)];exact Bu ..) rfl ?_;refine Aa (r:=.int .i64 ((w.2:Int)-(j_ l[w.1]:Int)+Q_ l[w.1].op)) (by rw [←DU (x:=(w.2:Int)-(j_ l[w.1]:Int)+Q_ l[w.1].op) (by omega) (by omega)];exact A9 ..) rfl ?_;refine Aa (Bn ..) rfl (AC rfl (λhlow=>?_) (λhlow=>?_));have hlow:(w.2:Int)<(j_ l[w.1]:Int):=dT hlow;have hfull:(t_ l).full w=true:=(by unfold WG.full;rw [htk,AX (by omega)];rfl);exact CX rfl ⟨(s++[w],t),(hfr hfull).1,st_eq u (by rw [Xu,hfull,Bool.or_true]),(hfr hfull).2⟩;have hlow:¬(w.2:Int)<(j_ l[w.1]:Int):=dF hlow;refine Aa (BF ..) rfl (AC rfl (λhhi=>?_) (λhhi=>?_));have hhi:(16:Int)<(w.2:Int)-(j_ l[w.1]:Int)+Q_ l[w.1].op:=dT hhi;have hfull:(t_ l).full w=true:=(by unfold WG.full;rw [htk,AX (p:=16<w.2-j_ l[w.1]+(t_ l).lv w.1) (by omega),Bool.or_true]);exact CX rfl ⟨(s++[w],t),(hfr hfull).1,st_eq u (by rw [Xu,hfull,Bool.or_true]),(hfr hfull).2⟩;have hhi:¬(16:Int)<(w.2:Int)-(j_ l[w.1]:Int)+Q_ l[w.1].op:=dF hhi;have hfull:(t_ l).full w=false:=(by unfold WG.full;rw [htk,Bk (by omega),Bk (by omega)];rfl);have hhiN:((w.2:Int)-(j_ l[w.1]:Int)+Q_ l[w.1].op)=(((t_ l).hi w:Nat):Int):=(by unfold WG.hi;rw [htk];omega);rw [hhiN];have hnx:(t_ l).nxt w=(C_ l[w.1] w.1).map λb=>(b,(t_ l).hi w):=(by unfold WG.nxt;rw [Ab (by rw [hfull];decide),hgo]);have hgl:(C_ l[w.1] w.1).length<=2:=(by rw [←hgo];exact hg.two _);refine Aa (PR hx hw1) (SD l w.1) (B3 (T4 hw1) rfl (Cx _) (Ar (wO hgm (a:=w.1) (by omega)) rfl (by show Ak [Cr H5 1 _]=true;simp only [Ak,SK Ty]) (Aa ((SlV.of (enc:=H5) (w:=1) _).len Tryz.underlying74) rfl ?_)));refine D3 (ι:=Nat) (λi=>[.int .i64 (i:Int),.int .i64 (((t_ l).hi w:Nat):Int),BG s_ 2 (t++((C_ l[w.1] w.1).take i).map λb=>(b,(t_ l).hi w)),Cr H5 1 (C_ l[w.1] w.1),.bool (U_ (s++[w])),.int .i64 ((C_ l[w.1] w.1).length:Int),BG DQ 2 (s++[w]),BG s_ 2 (D6 (s++[w]))])
             (λi=>i<=(C_ l[w.1] w.1).length) (λi=>(C_ l[w.1] w.1).length-i) 0 (zb' _) (by show [_,_,_,_,_,_,_,_]=[_,_,_,_,_,_,_,_];rw [List.take_zero,List.map_nil,List.append_nil,u];rfl) (λi _=>by simp only [Ak,okC,GO OZ,GO ZC,SK Ty]) (λi j _ _ h=>?_) (λi hi=>?_)
            .have h:=(List.cons.inj h).1;injection h with _ h
             omega
            refine Aa (Bn ..) rfl (AC rfl (λhlt=>?_) (λhlt=>?_));have hlt:(i:Int)<((C_ l[w.1] w.1).length:Int):=dT hlt;have hlt:i<(C_ l[w.1] w.1).length:=(by omega);refine Aa (u9 hlt) (qy _ i) (Aa (vm hlt) rfl (Aa (ue _ _ _ (by rw [List.length_append,List.length_map,List.length_take];omega)) (GO OZ _) (Aa (A9 ..) rfl (CX rfl ⟨i+1,hlt,?_,by omega⟩))));show [AV.int .i64 (IntKind.i64.wrap ((i:Int)+1)),_,_,_,_,_,_,_]=[AV.int .i64 ((i+1:Nat):Int),_,_,_,_,_,_,_];rw [DU (by omega) (by omega),List.take_add_one,List.getElem?_eq_getElem hlt,Option.toList_some,List.map_append,←List.append_assoc];rfl
            .have hlt:¬(i:Int)<((C_ l[w.1] w.1).length:Int):=dF hlt;have hti:(C_ l[w.1] w.1).take i=C_ l[w.1] w.1:=List.take_of_length_le (by omega);have hf2:=BR.fresh hg hS (w:=w) (t':=t) (t2:=t++(t_ l).nxt w) hmem hlen hns (λv=>FZ) Ax;refine CX rfl ⟨(s++[w],t++(t_ l).nxt w),hf2.1,?_,hf2.2⟩;show [AV.bool (U_ (s++[w])),_,AV.bool (Ht (t_ l) s),_,_]=[AV.bool (U_ (s++[w])),_,AV.bool (Ht (t_ l) (s++[w])),_,_];rw [Xu,hfull,Bool.or_false,hti,hnx];rfl)
end Go.Proofs.YtelnbodnjmldeaaGreat.vars
