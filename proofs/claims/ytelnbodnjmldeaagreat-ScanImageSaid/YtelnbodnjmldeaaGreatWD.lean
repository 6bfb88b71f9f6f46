/-
  The document's whole numbers.
-/
import Derived.Test.YtelnbodnjmldeaaGreatV4
import Derived.Test.YtelnbodnjmldeaaGreatFA
import Derived.WalkKit
import Derived.ProofKit
import Derived.Laws.Externs
import Derived.Lib.Hide
set_option linter.all false
set_option maxHeartbeats 1000000
set_option maxRecDepth 100000
open List renaming mem_cons_self→za',mem_cons_of_mem→zd'
open Int renaming tmod_lt_of_pos→zb'
open Bool renaming false_ne_true→zc'
namespace Go.Proofs.YtelnbodnjmldeaaGreat.vars
open Go Go.Sx
def Ip_:VC:=⟨⟨[],[]⟩,[],[],0,true,[]⟩
def fU:VT:=.ite 64 (.done (J 1))<|.done (J 0)
def tu:VC:=⟨⟨[],[]⟩,[],[],0,true,[]⟩
def i9:VT:=Iq 64 2 65 (.done (J 16))<|Iq 64 3 66 (.done (J 32))<|Iq 64 4 67 (.done (J 64))<|.done (J 0)
def Fm_:VC:=⟨⟨[],[]⟩,[(171,[none])],[],0,true,[]⟩
def nz:VT:=Li Qc [64,J 0] 65<|.call 171 [65] 66 [none]<|.done (66)
def Fn_:VC:=⟨⟨[],[]⟩,[(171,[none])],[],0,true,[]⟩
def eY:VT:=Li Zl [64,J 65536] 65<|It Z8 [65,J 0] 66 (Li Zk [65,J 65536] 67<|It Qu [67,J 32768] 68 (Li Zh [67,J 65536] 69<|.done (69))<|.done (67))<|It Qu [65,J 32768] 67 (Li Zh [65,J 65536] 68<|.done (68))<|.done (65)
def vR:VC:=⟨⟨[],[]⟩,[(171,[none])],[],0,true,[]⟩
def jO:VT:=Li Zl [64,J 4294967296] 65<|It Z8 [65,J 0] 66 (Li Zk [65,J 4294967296] 67<|It Qu [67,J 2147483648] 68 (Li Zh [67,J 4294967296] 69<|.done (69))<|.done (67))<|It Qu [65,J 2147483648] 67 (Li Zh [65,J 4294967296] 68<|.done (68))<|.done (65)
def si:VC:=⟨⟨[],[]⟩,[(171,[none])],[],0,true,[]⟩
def iP:VT:=.done (64)
def vP:VC:=⟨⟨[],[]⟩,[(171,[none])],[],0,true,[]⟩
def dw:VT:=.done (J 0)
def zy:VC:=⟨⟨[],[]⟩,[(130,[none]),(171,[none]),(172,[none])],[],0,true,[]⟩
def pI:VT:=Iq 65 1 68 (Iq 64 13 69 (It Qc [66,J 0] 70 (Li Qc [67,J 0] 71<|.call 171 [71] 72 [none]<|.done (.tup [72,J 0]))<|.call 171 [.bool false] 71 [none]<|.done (.tup [71,J 0]))<|Iq 64 14 70 (It Qc [66,J 0] 71 (.call 171 [.bool true] 72 [none]<|.done (.tup [72,J 0]))<|Li Qc [67,J 0] 72<|.call 171 [72] 73 [none]<|.done (.tup [73,J 0]))<|Iq 64 15 71 (Li Qt [66,J 0] 72<|.call 171 [72] 73 [none]<|.done (.tup [73,J 0]))<|Iq 64 9 72 (Li Qq [66,67] 73<|.call 171 [73] 74 [none]<|.done (.tup [74,J 0]))<|Iq 64 10 73 (Li Ua [66,67] 74<|.call 171 [74] 75 [none]<|.done (.tup [75,J 0]))<|Dn [J 4])<|.call 172 [65] 69 [none]<|Iq 69 0 70 (Dn [J 4])<|Iq 64 4 71 (Li Zk [66,67] 72<|.call 130 [65,72] 73 [none]<|.done (.tup [73,J 0]))<|Iq 64 5 72 (Li Zh [66,67] 73<|.call 130 [65,73] 74 [none]<|.done (.tup [74,J 0]))<|Iq 64 6 73 (Li Uv [66,67] 74<|.call 130 [65,74] 75 [none]<|.done (.tup [75,J 0]))<|Iq 64 16 74 (Li Zb [66] 75<|.call 130 [65,75] 76 [none]<|.done (.tup [76,J 0]))<|Iq 64 7 75 (It Qt [67,J 0] 76 (Dn [J 5])<|It Qt [67,.int .i64 (-1)] 77 (Iq 64 8 78 (Dn [J 0])<|Li Zb [66] 79<|.call 130 [65,79] 80 [none]<|.done (.tup [80,J 0]))<|Iq 64 8 78 (Li Zl [66,67] 79<|.done (.tup [79,J 0]))<|Li Ub [66,67] 79<|.done (.tup [79,J 0]))<|Iq 64 8 76 (It Qt [67,J 0] 77 (Dn [J 5])<|It Qt [67,.int .i64 (-1)] 78 (Iq 64 8 79 (Dn [J 0])<|Li Zb [66] 80<|.call 130 [65,80] 81 [none]<|.done (.tup [81,J 0]))<|Iq 64 8 79 (Li Zl [66,67] 80<|.done (.tup [80,J 0]))<|Li Ub [66,67] 80<|.done (.tup [80,J 0]))<|Iq 64 9 77 (Li Qq [66,67] 78<|.call 171 [78] 79 [none]<|.done (.tup [79,J 0]))<|Iq 64 10 78 (Li Ua [66,67] 79<|.call 171 [79] 80 [none]<|.done (.tup [80,J 0]))<|Iq 64 11 79 (Li Uu [66,67] 80<|.call 171 [80] 81 [none]<|.done (.tup [81,J 0]))<|Iq 64 12 80 (Li Zy [66,67] 81<|.call 171 [81] 82 [none]<|.done (.tup [82,J 0]))<|Dn [J 4]
def CV (b:Bool):AQ 171 [.bool b] (.int .i64 (tI b)):=by refine BV [none] [.bool b] Ip_ fU rfl rfl rfl rfl rfl (by kernel_rfl) λY hf hg=>?_;unfold fU;cases b;exact AC (t:=false) rfl (λh=>by cases h) (λh=>As rfl);exact AC (t:=true) rfl (λh=>As rfl) (λh=>by cases h)
def Rl (k:Int):Int:=if k=2 then 16 else if k=3 then 32 else if k=4 then 64 else 0
def rT (k:Int):AQ 172 [.int .i64 k] (.int .i64 (Rl k)):=by
 refine BV [none] [.int .i64 k] tu i9 rfl rfl rfl rfl rfl (by kernel_rfl) λY hf hg=>?_;unfold i9
 (refine d_ rfl rfl ?_ ?_<;>intro h<;>try omega)
 subst h;exact As rfl
 (refine d_ rfl rfl ?_ ?_<;>intro h<;>try omega)
 subst h;exact As rfl
 (refine d_ rfl rfl ?_ ?_<;>intro h<;>try omega)
 subst h;exact As rfl;refine As ?_;have:Rl k=0:=by unfold Rl;simp only [*,if_false]
 rw [this];rfl
def K2 (n x:Int):Int:=if x.tmod n<0 then (if n/2<=x.tmod n+n then x.tmod n+n-n else x.tmod n+n)else (if n/2<=x.tmod n then x.tmod n-n else x.tmod n)
def Th (x n:Int) (hn:0<n): -n<x.tmod n/\x.tmod n<n:=by refine ⟨?_,zb' x hn⟩;have:=zb' (-x) hn;rw [Int.neg_tmod]at this;omega
def fh (x n:Int) (hn:0<n):x.tmod n=x%n\/(x.tmod n=x%n-n/\x%n≠0):=by rw [Int.tmod_eq_emod];split;left;omega;rename_i h;right;have h2:¬n ∣ x:=λhd=>h (.inr hd);have:x%n≠0:=λe=>h2 (Int.dvd_of_emod_eq_zero e);omega
theorem uw (x:Int):K2 65536 x=IntKind.i16.wrap x:=by have h:=fh x 65536 (by omega);have hb:=Th x 65536 (by omega);simp only [IntKind.wrap,IntKind.bits,IntKind.signed,K2];simp;generalize x.tmod 65536=r at*;omega
theorem wE (x:Int):K2 4294967296 x=IntKind.i32.wrap x:=by have h:=fh x 4294967296 (by omega);have hb:=Th x 4294967296 (by omega);simp only [IntKind.wrap,IntKind.bits,IntKind.signed,K2];simp;generalize x.tmod 4294967296=r at*;omega
def Gn_ (x:Int):AQ 130 [.int .i64 1,.int .i64 x] (.int .i64 (K_ 1 x)):=by refine EY (args':=[.int .i64 1,.sym 64]) (ls:=[.int .i64 x]) (c:=Fm_) (n:=300) (t:=nz) mo ov rfl rfl rfl rfl (λY _=>rfl) (λY _=>Ck _) rfl (by kernel_rfl) λY hf hg=>?_;unfold nz;refine Aa (Av ..) rfl (Ar (CV _) rfl rfl (As ?_));by_cases hi:x=0<;>simp [hi,K_,tI]<;>rfl
def Gq_ (x:Int):AQ 130 [.int .i64 4,.int .i64 x] (.int .i64 x):=by refine EY (args':=[.int .i64 4,.sym 64]) (ls:=[.int .i64 x]) (c:=si) (n:=300) (t:=iP) mo ov rfl rfl rfl rfl (λY _=>rfl) (λY _=>Ck _) rfl (by kernel_rfl) λY hf hg=>?_;unfold iP;exact As rfl
def uq (x:Int):AQ 130 [.int .i64 5,.int .i64 x] (.int .i64 0):=by refine EY (args':=[.int .i64 5,.sym 64]) (ls:=[.int .i64 x]) (c:=vP) (n:=300) (t:=dw) mo ov rfl rfl rfl rfl (λY _=>rfl) (λY _=>Ck _) rfl (by kernel_rfl) λY hf hg=>?_;unfold dw;exact As rfl
def uW (x:Int):AQ 130 [.int .i64 2,.int .i64 x] (.int .i64 (K2 65536 x)):=by
 have hb:=Th x 65536 (by omega);refine EY (args':=[.int .i64 2,.sym 64]) (ls:=[.int .i64 x]) (c:=Fn_) (n:=300) (t:=eY) mo ov rfl rfl rfl rfl (λY _=>rfl) (λY _=>Ck _) rfl (by kernel_rfl) λY hf hg=>?_;unfold eY;have hr:=TM (P:=Tryz.prog) (k:=.i64) (x:=x) (c:=65536) (by omega) 2 false false;unfold K2;generalize x.tmod 65536=r at*;refine Aa hr rfl ?_;repeat' (first
  |refine Aa (Bn ..) rfl ?_
  |refine Aa (Ba ..) rfl ?_
  |refine Aa (A9 ..) rfl ?_
  |refine Aa (Bu ..) rfl ?_
  |refine AC rfl (λh=>?_) (λh=>?_)
  |refine As ?_)
 all_goals (simp only [AJ,AP]at *)
 all_goals (try rw [DU (x:=r+65536) (by omega) (by omega)]at *)
 all_goals
  (show AV.int .i64 _=AV.int .i64 _
   congr 1
   repeat' split
   all_goals first
    |(exfalso;omega)
    |rfl
    |(rw [DU (x:=r+65536-65536) (by omega) (by omega)])
    |(rw [DU (x:=r-65536) (by omega) (by omega)])
    |omega)
def yb (x:Int):AQ 130 [.int .i64 3,.int .i64 x] (.int .i64 (K2 4294967296 x)):=by
 have hb:=Th x 4294967296 (by omega);refine EY (args':=[.int .i64 3,.sym 64]) (ls:=[.int .i64 x]) (c:=vR) (n:=300) (t:=jO) mo ov rfl rfl rfl rfl (λY _=>rfl) (λY _=>Ck _) rfl (by kernel_rfl) λY hf hg=>?_;unfold jO;have hr:=TM (P:=Tryz.prog) (k:=.i64) (x:=x) (c:=4294967296) (by omega) 2 false false;unfold K2;generalize x.tmod 4294967296=r at*;refine Aa hr rfl ?_;repeat' (first
  |refine Aa (Bn ..) rfl ?_
  |refine Aa (Ba ..) rfl ?_
  |refine Aa (A9 ..) rfl ?_
  |refine Aa (Bu ..) rfl ?_
  |refine AC rfl (λh=>?_) (λh=>?_)
  |refine As ?_)
 all_goals (simp only [AJ,AP]at *)
 all_goals (try rw [DU (x:=r+4294967296) (by omega) (by omega)]at *)
 all_goals
  (show AV.int .i64 _=AV.int .i64 _
   congr 1
   repeat' split
   all_goals first
    |(exfalso;omega)
    |rfl
    |(rw [DU (x:=r+4294967296-4294967296) (by omega) (by omega)])
    |(rw [DU (x:=r-4294967296) (by omega) (by omega)])
    |omega)
def LE {k:Int} (h:1<=k/\k<=5) (x:Int):AQ 130 [.int .i64 k,.int .i64 x] (.int .i64 (K_ k x)):=by rcases (by omega:k=1\/k=2\/k=3\/k=4\/k=5)with rfl|rfl|rfl|rfl|rfl;exact Gn_ x;have:=uW x;rw [uw]at this;exact this;have:=yb x;rw [wE]at this;exact this;exact Gq_ x;exact uq x
def qJ (op k a b:Int) (ho:CS op k) (hk:k≠5) (ha:Do k a):AQ 133 [.int .i64 op,.int .i64 k,.int .i64 a,.int .i64 b] (.tup [.int .i64 (H_ op k a b),.int .i64 (CH op b)]):=by
 obtain ⟨h1,h2,h3,h4,h5,h6,h7⟩:=ho;have hkk:1<=k/\k<=5:=⟨h3,h4⟩;refine BV [none,none,none,none] [.int .i64 op,.int .i64 k,.int .i64 a,.int .i64 b] zy pI rfl rfl rfl rfl rfl (by kernel_rfl) λY hf hg=>?_;unfold pI;have fin0:∀{v:Int},(op≠7/\op≠8)->Dr op k a b=v->AV.tup [.int .i64 v,.int .i64 0]=.tup [.int .i64 (H_ op k a b),.int .i64 (CH op b)]:=λh e=>by rw [H_,Ad (EH h),EH h,e]
 have fin1:∀{v:Int},b≠0->Dr op k a b=v->AV.tup [.int .i64 v,.int .i64 0]=.tup [.int .i64 (H_ op k a b),.int .i64 (CH op b)]:=λh e=>by have h0:CH op b=0:=(by unfold CH;rw [Ab (λhh=>h hh.2)]);rw [H_,Ad h0,h0,e]
 have fin5:(op=7\/op=8)->b=0->AV.tup [.int .i64 0,.int .i64 5]=.tup [.int .i64 (H_ op k a b),.int .i64 (CH op b)]:=λh e=>by have h0:CH op b=5:=(by unfold CH;rw [Ad ⟨h,e⟩]);rw [H_,h0,Ab (by omega)]
 have h8:k≠1->op=8->Dr op k a b=a.tmod b:=λhk1 e=>by have:=mi (b:=b) ha hk hk1;rw [NW (by omega),e];show K_ k (a.tmod b)=_;rw [Mx this hk]
 have h7':k≠1->op=7->b≠ -1->Dr op k a b=FQ (a.tdiv b):=λhk1 e hb=>by have h:=vQ (b:=b) ha hk hk1 hb;have e64:FQ (a.tdiv b)=a.tdiv b:=DU h.i64.1 h.i64.2;rw [NW (by omega),e];show K_ k (FQ (a.tdiv b))=_;rw [e64,Mx h hk]
 (refine d_ rfl rfl ?_ ?_<;>intro h<;>try omega)
 ·(refine d_ rfl rfl ?_ ?_<;>intro h<;>try omega)
  .have e:Dr op k a b=tI (decide (¬a=0)&&decide (¬b=0)):=by subst op;rfl
   (refine d_ rfl rfl ?_ ?_<;>intro h<;>try omega)
   .refine Aa (Av ..) rfl (Ar (CV _) rfl rfl (As (fin0 (by omega) ?_)));rw [e,AX (by omega),Bool.true_and];by_cases hb:b=0<;>simp [hb]
   refine Ar (CV false) rfl rfl (As (fin0 (by omega) ?_));rw [e,Bk (by omega),Bool.false_and]
  (refine d_ rfl rfl ?_ ?_<;>intro h<;>try omega)
  .have e:Dr op k a b=tI (decide (¬a=0)||decide (¬b=0)):=by subst op;rfl
   (refine d_ rfl rfl ?_ ?_<;>intro h<;>try omega)
   refine Ar (CV true) rfl rfl (As (fin0 (by omega) ?_));rw [e,AX (by omega),Bool.true_or]
   .refine Aa (Av ..) rfl (Ar (CV _) rfl rfl (As (fin0 (by omega) ?_)));rw [e,Bk (p:=¬a=0) (by omega),Bool.false_or];by_cases hb:b=0<;>simp [hb]
  (refine d_ rfl rfl ?_ ?_<;>intro h<;>try omega)
  have e:Dr op k a b=tI (decide (a=0)):=(by subst op;rfl);exact Aa (Aw ..) rfl (Ar (CV _) rfl rfl (As (fin0 (by omega) e)))
  (refine d_ rfl rfl ?_ ?_<;>intro h<;>try omega)
  have e:Dr op k a b=tI (decide (a=b)):=(by subst op;rfl);exact Aa (Aw ..) rfl (Ar (CV _) rfl rfl (As (fin0 (by omega) e)))
  (refine d_ rfl rfl ?_ ?_<;>intro h<;>try omega)
  have e:Dr op k a b=tI (decide (¬a=b)):=(by subst op;rfl);refine Aa (Av ..) rfl (Ar (CV _) rfl rfl (As (fin0 (by omega) ?_)));rw [e];by_cases hb:a=b<;>simp [hb]
 have hk1:k≠1:=h;have hb:Rl k≠0:=by unfold Rl;split<;>(try split)<;>(try split)<;>omega
 refine Ar (rT k) rfl rfl ?_
 (refine d_ rfl rfl ?_ ?_<;>intro h<;>try omega)
 (refine d_ rfl rfl ?_ ?_<;>intro h<;>try omega)
 exact Aa (A9 ..) rfl (Ar (LE hkk _) rfl rfl (As (fin0 (by omega) (by subst op;rfl))))
 (refine d_ rfl rfl ?_ ?_<;>intro h<;>try omega)
 exact Aa (Bu ..) rfl (Ar (LE hkk _) rfl rfl (As (fin0 (by omega) (by subst op;rfl))))
 (refine d_ rfl rfl ?_ ?_<;>intro h<;>try omega)
 exact Aa (F7 ..) rfl (Ar (LE hkk _) rfl rfl (As (fin0 (by omega) (by subst op;rfl))))
 (refine d_ rfl rfl ?_ ?_<;>intro h<;>try omega)
 exact Aa (YL ..) rfl (Ar (LE hkk _) rfl rfl (As (fin0 (by omega) (by subst op;rfl))))
 (refine d_ rfl rfl ?_ ?_<;>intro h<;>try omega)
 .have h7'':=h
  (refine d_ rfl rfl ?_ ?_<;>intro h<;>try omega)
  exact As (fin5 (by omega) h);have hb0:=h
  (refine d_ rfl rfl ?_ ?_<;>intro h<;>try omega)
  .have hbm:=h
   (refine d_ rfl rfl ?_ ?_<;>intro h<;>try omega)
   refine Aa (YL ..) rfl (Ar (LE hkk _) rfl rfl (As (fin1 hb0 ?_)));rw [NW (by omega),h7'',hbm];show K_ k (FQ (a.tdiv (-1)))=K_ k (IntKind.i64.wrap (0-a));rw [wN,Int.zero_sub];rfl
  have hbm:=h
  (refine d_ rfl rfl ?_ ?_<;>intro h<;>try omega)
  exact Aa (ip hb0 ..) rfl (As (fin1 hb0 (h7' hk1 h7'' hbm)))
 (refine d_ rfl rfl ?_ ?_<;>intro h<;>try omega)
 .have h8':=h
  (refine d_ rfl rfl ?_ ?_<;>intro h<;>try omega)
  exact As (fin5 (by omega) h);have hb0:=h
  (refine d_ rfl rfl ?_ ?_<;>intro h<;>try omega)
  .have hbm:=h
   (refine d_ rfl rfl ?_ ?_<;>intro h<;>try omega)
   refine As (fin1 hb0 ?_);rw [h8 hk1 h8',hbm,zS]
  have hbm:=h
  (refine d_ rfl rfl ?_ ?_<;>intro h<;>try omega)
  exact Aa (TM hb0 ..) rfl (As (fin1 hb0 (h8 hk1 h8')))
 (refine d_ rfl rfl ?_ ?_<;>intro h<;>try omega)
 have e:Dr op k a b=tI (decide (a=b)):=(by subst op;rfl);exact Aa (Aw ..) rfl (Ar (CV _) rfl rfl (As (fin0 (by omega) e)))
 (refine d_ rfl rfl ?_ ?_<;>intro h<;>try omega)
 .have e:Dr op k a b=tI (decide (¬a=b)):=(by subst op;rfl);refine Aa (Av ..) rfl (Ar (CV _) rfl rfl (As (fin0 (by omega) ?_)));rw [e];by_cases hb:a=b<;>simp [hb]
 (refine d_ rfl rfl ?_ ?_<;>intro h<;>try omega)
 have e:Dr op k a b=tI (decide (a<b)):=(by subst op;rfl);exact Aa (Bn ..) rfl (Ar (CV _) rfl rfl (As (fin0 (by omega) e)))
 (refine d_ rfl rfl ?_ ?_<;>intro h<;>try omega)
 have e:Dr op k a b=tI (decide (a<=b)):=by subst op;rfl
 exact Aa (BN ..) rfl (Ar (CV _) rfl rfl (As (fin0 (by omega) e)))
end Go.Proofs.YtelnbodnjmldeaaGreat.vars
set_option maxRecDepth 100000
namespace Go.Proofs.YtelnbodnjmldeaaGreat.vars
open Go.Sx Go
def eC (s:Bool) (t:Nat):((FloatKind.f64.format).read (FloatKind.f64.encode (.nan s (FloatKind.f64.format.quiet t)))).isNaN=true:=by
 refine Sz ?_ (by decide +kernel);have h51:(Ieee.Format.quiet Ieee.double t%Ieee.double.binade).testBit 51=true:=by have hb:Ieee.double.binade=2^52:=(by decide +kernel);rw [hb,Nat.testBit_mod_two_pow];show (decide (51<52)&&(t|||2^(Ieee.double.fractionBits-1)).testBit 51)=true;have hf:Ieee.double.fractionBits-1=51:=(by decide +kernel);rw [hf,Nat.testBit_or,Nat.testBit_two_pow_self];simp
 have hpos:0<Ieee.Format.quiet Ieee.double t%Ieee.double.binade:=by rcases Nat.eq_zero_or_pos (Ieee.Format.quiet Ieee.double t%Ieee.double.binade)with h|h;rw [h]at h51;simp at h51;exact h
 have hlt:Ieee.Format.quiet Ieee.double t%Ieee.double.binade<Ieee.double.binade:=Nat.mod_lt _ (by decide +kernel);show Ieee.double.infRung<(Ieee.double.word s (Ieee.double.infRung+Ieee.Format.quiet Ieee.double t%Ieee.double.binade))%Ieee.double.signWeight;generalize Ieee.Format.quiet Ieee.double t%Ieee.double.binade=q at*;have e1:Ieee.double.infRung=9218868437227405312:=by decide +kernel
 have e2:Ieee.double.signWeight=9223372036854775808:=by decide +kernel
 have e3:Ieee.double.binade=4503599627370496:=by decide +kernel
 unfold Ieee.Format.word;rw [e1,e2];rw [e3]at hlt;cases s<;>simp<;>omega
def vV (b:Nat):∃q:Question,Extern.MathFloor.toIntegral "math.archTrunc" .zero #[.float .f64 b]=(match FloatKind.f64.format.read b with
 | .nan s t=>if FloatKind.f64.format.quiet t=t then pure (.float .f64 b)else do
    let kept←choose q
    pure (.float .f64 (if kept==1 then b else FloatKind.f64.encode (.nan s (FloatKind.f64.format.quiet t))))
 |d=>pure (.float .f64 (FloatKind.f64.encode (d.integral .zero)))):=⟨_,rfl⟩
def fw (b b':Nat):Prop:=(CG b=true->((FloatKind.f64.format).read b').isNaN=true)/\(CG b=false->b'=He b)
def vj {P:Program} (b:Nat) (w:World):
  ∃b' n,(Extern.MathFloor.toIntegral "math.archTrunc" .zero #[.float .f64 b]).run P w=.ok (.float .f64 b') { w with drawn:=n }/\fw b b':=by
 obtain ⟨q,e⟩:=vV b;rw [e];have hn:(FloatKind.f64.format.read b).isNaN=CG b:=dk;cases hd:FloatKind.f64.format.read b with
 |number s m i=>rw [hd]at hn;refine ⟨He b,w.drawn,?_,λh=>(zc' (hn.trans h)).elim,λ_=>rfl⟩;unfold He;rw [show Ieee.double.read b=_ from hd];rfl
 |infinity s=>rw [hd]at hn;refine ⟨He b,w.drawn,?_,λh=>(zc' (hn.trans h)).elim,λ_=>rfl⟩;unfold He;rw [show Ieee.double.read b=_ from hd];rfl
 |nan s t=>rw [hd]at hn;have hf:CG b≠false:=λh=>(by rw [←hn]at h;cases h);simp only;split;exact ⟨b,w.drawn,rfl,λ_=>by rw [hd];rfl,λh=>absurd h hf⟩;simp only [Sem.run_bind,choose,Sem.run,Result.andThen];by_cases hq:q.forced=true;rw [Ad hq];exact ⟨_,w.drawn,rfl,λ_=>eC s t,λh=>absurd h hf⟩;rw [Ab hq];refine ⟨_,_,rfl,λ_=>?_,λh=>absurd h hf⟩;split;rw [hd];rfl;exact eC s t
def uO (b:Nat) (w:World):
  Calls Tryz.prog 173 #[.float .f64 b] w λe w'=>∃b' n,e=.returned (.float .f64 b')/\w'={ w with drawn:=n }/\fw b b':=by
 obtain ⟨b',n,h1,h2⟩:=vj (P:=Tryz.prog) b w;have h3:(callFunc 205 #[.float .f64 b]).run Tryz.prog w=.ok (.value (.float .f64 b')) { w with drawn:=n }:=by rw [run_callFunc_extern (P:=Tryz.prog) (f:=205) (e:=Extern.MathFloor.toIntegral "math.archTrunc" .zero) Tryz.func205 (by kernel_rfl) (by kernel_rfl) (by kernel_rfl) (by kernel_rfl),h1];rfl
 have H2:=Lib.hid h2;clear h2 h1;generalize hw1:({ w with drawn:=n }:World)=w1 at*;have H3:=Lib.hid hw1;clear hw1
 go_enter Tryz.func173,Tryz.ntmps173
 go_wp2
 go_ret
 exact ⟨b',n,rfl,H3.out.symm,H2.out⟩
def d6 (o:Option Nat):AQ 173 [fv o] (fv (DX o)):=by
 intro H B pr E w vs hg hr hc;have key:∃b,vs=[.float .f64 b]/\(CG b=DV o)/\(DV o=false->o=some b):=by
  cases o with
  |none=>simp only [fv,HN,Ah,Ac]at hc;obtain ⟨v,r,rfl,⟨b,rfl,hb⟩,rfl⟩:=hc;exact ⟨b,rfl,by rw [←dk];exact hb,λh=>by cases h⟩
  |some b=>simp only [fv,HN,Ah,Ac]at hc;obtain ⟨v,r,rfl,rfl,rfl⟩:=hc;exact ⟨b,rfl,rfl,λ_=>rfl⟩
 obtain ⟨b,rfl,hn,ho⟩:=key;refine (uO b w).mono λe w' he=>?_;obtain ⟨b',n,rfl,rfl,h1,h2⟩:=he;refine ⟨E,Ag.le_refl E,_,rfl,?_,hr.drawn n⟩;cases hb:DV o with
 |true=>
  have e:DX o=none:=by
   cases o with
   |none=>rfl
   |some x=>show (if CG x=true then none else some (He x))=none;exact Ad hb
  rw [e];simp only [fv,HN,Ac];exact ⟨b',rfl,h1 (hn.trans hb)⟩
 |false=>
  rw [ho hb];have hb':CG b=false:=hn.trans hb;have e:DX (some b)=some (He b):=by show (if CG b=true then none else some (He b))=_;rw [Ab (by rw [hb'];exact Bool.false_ne_true)]
  rw [e,←h2 hb'];simp only [fv,HN,Ac]
def tJ:VC:=⟨⟨[],[]⟩,[],[],0,true,[]⟩
def oe:VT:=Iq 64 4 67 (Li Uw [65,66] 68<|.done (.tup [68,.bool false,.bool true]))<|Iq 64 5 68 (Li Ux [65,66] 69<|.done (.tup [69,.bool false,.bool true]))<|Iq 64 6 69 (Li Uy [65,66] 70<|.done (.tup [70,.bool false,.bool true]))<|Iq 64 7 70 (Li Uz [65,66] 71<|.done (.tup [71,.bool false,.bool true]))<|Iq 64 16 71 (Li Zb [65] 72<|.done (.tup [72,.bool false,.bool true]))<|Iq 64 9 72 (Li G0 [65,66] 73<|.done (.tup [.flt .f64 0,73,.bool true]))<|Iq 64 10 73 (Li Zf [65,66] 74<|.done (.tup [.flt .f64 0,74,.bool true]))<|Iq 64 11 74 (Li Uc [65,66] 75<|.done (.tup [.flt .f64 0,75,.bool true]))<|Iq 64 12 75 (Li G1 [65,66] 76<|.done (.tup [.flt .f64 0,76,.bool true]))<|.done (.tup [.flt .f64 0,.bool false,.bool false])
def vn:VC:=⟨⟨[],[]⟩,[],[],0,true,[]⟩
def oX:VT:=Iq 64 4 67 (Li Uw [65,66] 68<|.done (.tup [68,.bool false,.bool true]))<|Iq 64 5 68 (Li Ux [65,66] 69<|.done (.tup [69,.bool false,.bool true]))<|Iq 64 6 69 (Li Uy [65,66] 70<|.done (.tup [70,.bool false,.bool true]))<|Iq 64 7 70 (Li Uz [65,66] 71<|.done (.tup [71,.bool false,.bool true]))<|Iq 64 16 71 (Li Zb [65] 72<|.done (.tup [72,.bool false,.bool true]))<|Iq 64 9 72 (Li G0 [65,66] 73<|.done (.tup [.flt .f64 0,73,.bool true]))<|Iq 64 10 73 (Li Zf [65,66] 74<|.done (.tup [.flt .f64 0,74,.bool true]))<|Iq 64 11 74 (Li Uc [65,66] 75<|.done (.tup [.flt .f64 0,75,.bool true]))<|Iq 64 12 75 (Li G1 [65,66] 76<|.done (.tup [.flt .f64 0,76,.bool true]))<|.done (.tup [.flt .f64 0,.bool false,.bool false])
def zE:VC:=⟨⟨[],[]⟩,[],[],0,true,[]⟩
def ki:VT:=.ite 64 (.done (.agg [J 1,J 1,.flt .f64 0]))<|.done (.agg [J 1,J 0,.flt .f64 0])
def vt:VC:=⟨⟨[],[]⟩,[],[],0,true,[]⟩
def ek:VT:=Iq 64 2 65 (.done (.tup [.flt .f64 13898108450065350656,.bool true]))<|Iq 64 3 66 (.done (.tup [.flt .f64 13970166044103278592,.bool true]))<|Iq 64 4 67 (.done (.tup [.flt .f64 14114281232179134464,.bool true]))<|.done (.tup [.flt .f64 0,.bool false])
def Il_:VC:=⟨⟨[],[]⟩,[(198,[none,none]),(173,[none])],[],0,true,[]⟩
def mw:VT:=.call 198 [64] 66 [none,none]<|It Q6 [67] 68 (Dn [J 4])<|.call 173 [65] 69 [none]<|It (.bin .geq 60 false false) [69,66] 70 (Li Zb [66] 71<|It Uc [69,71] 72 (Li (.conv 60 2) [69] 73<|.done (.tup [73,J 0]))<|Dn [J 7])<|Dn [J 7]
def WO:VC:=⟨⟨[],[]⟩,[(173,[none])],[],0,true,[]⟩
def PF (lo hi:Nat):VT:=
 (.call 173 [.sym 64] 65 [none]
 (.lt Zf [.sym 64,.sym 64] 66 none
 (.ite 66
  (.done (.tup [.int .i64 0,.int .i64 7]))
  (.lt (.bin .lss 60 false false) [.sym 65,.flt .f64 lo] 67 none
  (.ite 67
   (.done (.tup [.int .i64 0,.int .i64 7]))
   (.lt (.bin .geq 60 false false) [.sym 65,.flt .f64 hi] 68 none
   (.ite 68
    (.done (.tup [.int .i64 0,.int .i64 7]))
    (.lt (.conv 60 2) [.sym 65] 69 none
    (.done (.tup [.sym 69,.int .i64 0]))))))))))
def c85:VC:=⟨⟨[],[]⟩,[(130,[none]),(129,[none,none])],[],0,true,[]⟩
def dH:VT:=Iq 64 5 68 (Iq 65 5 69 (.done (.tup [.agg [65,66,67],J 0]))<|Iq 64 5 70 (Li Zz [66] 71<|.done (.tup [.agg [J 5,J 0,71],J 0]))<|Iq 65 5 71 (.call 129 [64,67] 72 [none,none]<|It Q7 [73,J 0] 74 (.done (.tup [.agg [J 0,J 0,.flt .f64 0],73]))<|.done (.tup [.agg [64,72,.flt .f64 0],J 0]))<|.call 130 [64,66] 72 [none]<|.done (.tup [.agg [64,72,.flt .f64 0],J 0]))<|Iq 64 5 69 (Li Zz [66] 70<|.done (.tup [.agg [J 5,J 0,70],J 0]))<|Iq 65 5 70 (.call 129 [64,67] 71 [none,none]<|It Q7 [72,J 0] 73 (.done (.tup [.agg [J 0,J 0,.flt .f64 0],72]))<|.done (.tup [.agg [64,71,.flt .f64 0],J 0]))<|.call 130 [64,66] 71 [none]<|.done (.tup [.agg [64,71,.flt .f64 0],J 0])
def wz:VC:=⟨⟨[],[]⟩,[(131,[none,none,none]),(133,[none,none]),(132,[(some 3)])],[],0,true,[]⟩
def eM:VT:=Iq 65 5 72 (.call 131 [64,68,71] 73 [none,none,none]<|It Q6 [75] 76 (.done (.tup [.agg [J 0,J 0,.flt .f64 0],J 4]))<|It Q4 [64,J 9] 77 (It Q8 [64,J 12] 78 (.call 132 [74] 79 [(some 3)]<|.done (.tup [.agg [79,80,81],J 0]))<|.done (.tup [.agg [J 5,J 0,73],J 0]))<|.done (.tup [.agg [J 5,J 0,73],J 0]))<|.call 133 [64,65,67,70] 73 [none,none]<|It Q7 [74,J 0] 75 (.done (.tup [.agg [J 0,J 0,.flt .f64 0],74]))<|It Q4 [64,J 9] 76 (It Q8 [64,J 12] 77 (.done (.tup [.agg [J 1,73,.flt .f64 0],J 0]))<|.done (.tup [.agg [65,73,.flt .f64 0],J 0]))<|.done (.tup [.agg [65,73,.flt .f64 0],J 0])
def RG (a:Option Nat):(XOp.un .neg).run Tryz.prog [fv a]=some (fv (a.map (Op.negFloat .f64))):=by cases a<;>rfl
def TU (t:TypeId) (cx cy:Bool) (a b:Option Nat):(XOp.bin .add t cx cy).run Tryz.prog [fv a,fv b]=some (fv (EA FloatKind.f64.format.add a b)):=by rw [JW];rfl
def Uh (t:TypeId) (cx cy:Bool) (a b:Option Nat):(XOp.bin .sub t cx cy).run Tryz.prog [fv a,fv b]=some (fv (EA FloatKind.f64.format.sub a b)):=by rw [JW];rfl
def TT (t:TypeId) (cx cy:Bool) (a b:Option Nat):(XOp.bin .mul t cx cy).run Tryz.prog [fv a,fv b]=some (fv (EA FloatKind.f64.format.mul a b)):=by rw [JW];rfl
def Tx (t:TypeId) (cx cy:Bool) (a b:Option Nat):(XOp.bin .quo t cx cy).run Tryz.prog [fv a,fv b]=some (fv (EA FloatKind.f64.format.div a b)):=by rw [JW];rfl
def Sn (t:TypeId) (cx cy:Bool) (a b:Option Nat):(XOp.bin .eql t cx cy).run Tryz.prog [fv a,fv b]=some (.bool (Bw a b==some .eq)):=by rw [JW];rfl
def NR (t:TypeId) (cx cy:Bool) (a b:Option Nat):(XOp.bin .neq t cx cy).run Tryz.prog [fv a,fv b]=some (.bool (Bw a b !=some .eq)):=by rw [JW];rfl
def OI (t:TypeId) (cx cy:Bool) (a b:Option Nat):(XOp.bin .lss t cx cy).run Tryz.prog [fv a,fv b]=some (.bool (Bw a b==some .lt)):=by rw [JW];rfl
def Vb (t:TypeId) (cx cy:Bool) (a b:Option Nat):(XOp.bin .leq t cx cy).run Tryz.prog [fv a,fv b]=some (.bool (Bw a b==some .lt||Bw a b==some .eq)):=by rw [JW];rfl
def hJ (t:TypeId) (cx cy:Bool) (a b:Option Nat):(XOp.bin .geq t cx cy).run Tryz.prog [fv a,fv b]=some (.bool (Bw a b==some .gt||Bw a b==some .eq)):=by rw [JW];rfl
def Lj (op:Int):Prop:=(4<=op/\op<=7)\/op=16\/(9<=op/\op<=12)
def LB (op:Int) (a b:Option Nat):Option Nat:=
 if op=4 then EA FloatKind.f64.format.add a b else if op=5 then EA FloatKind.f64.format.sub a b else if op=6 then EA FloatKind.f64.format.mul a b else if op=7 then EA FloatKind.f64.format.div a b
 else if op=16 then a.map (Op.negFloat .f64)else some 0
def QU (op:Int) (a b:Option Nat):Bool:=if 9<=op/\op<=12 then jI op (Bw a b)else false
def bq {op:Int} {a b:Option Nat} (h:Lj op):KF op a b=if 9<=op/\op<=12 then ⟨1,tI (QU op a b),some 0⟩else ⟨5,0,LB op a b⟩:=by rcases (by unfold Lj at h;omega:op=4\/op=5\/op=6\/op=7\/op=16\/op=9\/op=10\/op=11\/op=12)with rfl|rfl|rfl|rfl|rfl|rfl|rfl|rfl|rfl<;>rfl
def cS (f:Option Nat) (b c:Bool):BP (.tup [fv f,.bool b,.bool c])=true:=by cases f<;>rfl
def Jh_ (k:Int) (f:Option Nat):Ak [.int .i64 k,fv f]=true:=by cases f<;>rfl
def lq (op:Int) (a b:Option Nat):Ak [.int .i64 op,fv a,fv b]=true:=by cases a<;>cases b<;>rfl
def Tb (op:Int) (a b:Option Nat) (h:Lj op):AQ 166 [.int .i64 op,fv a,fv b] (.tup [fv (LB op a b),.bool (QU op a b),.bool true]):=by
 unfold Lj at h;refine BV [none,none,none] [.int .i64 op,fv a,fv b] tJ oe rfl (lq ..) (cS ..) rfl rfl (by kernel_rfl) λY hf hg=>?_;unfold oe
 (refine d_ rfl rfl ?_ ?_<;>intro h<;>try omega)
 .subst op;(first
             |exact Aa (TU ..) (C3 _) (As (by rfl))
             |exact Aa (TU ..) rfl (As (by rfl)))
 (refine d_ rfl rfl ?_ ?_<;>intro h<;>try omega)
 .subst op;(first
             |exact Aa (Uh ..) (C3 _) (As (by rfl))
             |exact Aa (Uh ..) rfl (As (by rfl)))
 (refine d_ rfl rfl ?_ ?_<;>intro h<;>try omega)
 .subst op;(first
             |exact Aa (TT ..) (C3 _) (As (by rfl))
             |exact Aa (TT ..) rfl (As (by rfl)))
 (refine d_ rfl rfl ?_ ?_<;>intro h<;>try omega)
 .subst op;(first
             |exact Aa (Tx ..) (C3 _) (As (by rfl))
             |exact Aa (Tx ..) rfl (As (by rfl)))
 (refine d_ rfl rfl ?_ ?_<;>intro h<;>try omega)
 .subst op;(first
             |exact Aa (RG ..) (C3 _) (As (by rfl))
             |exact Aa (RG ..) rfl (As (by rfl)))
 (refine d_ rfl rfl ?_ ?_<;>intro h<;>try omega)
 .subst op;(first
             |exact Aa (Sn ..) (C3 _) (As (by rfl))
             |exact Aa (Sn ..) rfl (As (by rfl)))
 (refine d_ rfl rfl ?_ ?_<;>intro h<;>try omega)
 .subst op;(first
             |exact Aa (NR ..) (C3 _) (As (by rfl))
             |exact Aa (NR ..) rfl (As (by rfl)))
 (refine d_ rfl rfl ?_ ?_<;>intro h<;>try omega)
 .subst op;(first
             |exact Aa (OI ..) (C3 _) (As (by rfl))
             |exact Aa (OI ..) rfl (As (by rfl)))
 (refine d_ rfl rfl ?_ ?_<;>intro h<;>try omega)
 subst op;(first
            |exact Aa (Vb ..) (C3 _) (As (by rfl))
            |exact Aa (Vb ..) rfl (As (by rfl)))
def Jz_ (op:Int) (a b:Option Nat) (h:Lj op):AQ 131 [.int .i64 op,fv a,fv b] (.tup [fv (LB op a b),.bool (QU op a b),.bool true]):=by
 unfold Lj at h;refine BV [none,none,none] [.int .i64 op,fv a,fv b] vn oX rfl (lq ..) (cS ..) rfl rfl (by kernel_rfl) λY hf hg=>?_;unfold oX
 (refine d_ rfl rfl ?_ ?_<;>intro h<;>try omega)
 .subst op;(first
             |exact Aa (TU ..) (C3 _) (As (by rfl))
             |exact Aa (TU ..) rfl (As (by rfl)))
 (refine d_ rfl rfl ?_ ?_<;>intro h<;>try omega)
 .subst op;(first
             |exact Aa (Uh ..) (C3 _) (As (by rfl))
             |exact Aa (Uh ..) rfl (As (by rfl)))
 (refine d_ rfl rfl ?_ ?_<;>intro h<;>try omega)
 .subst op;(first
             |exact Aa (TT ..) (C3 _) (As (by rfl))
             |exact Aa (TT ..) rfl (As (by rfl)))
 (refine d_ rfl rfl ?_ ?_<;>intro h<;>try omega)
 .subst op;(first
             |exact Aa (Tx ..) (C3 _) (As (by rfl))
             |exact Aa (Tx ..) rfl (As (by rfl)))
 (refine d_ rfl rfl ?_ ?_<;>intro h<;>try omega)
 .subst op;(first
             |exact Aa (RG ..) (C3 _) (As (by rfl))
             |exact Aa (RG ..) rfl (As (by rfl)))
 (refine d_ rfl rfl ?_ ?_<;>intro h<;>try omega)
 .subst op;(first
             |exact Aa (Sn ..) (C3 _) (As (by rfl))
             |exact Aa (Sn ..) rfl (As (by rfl)))
 (refine d_ rfl rfl ?_ ?_<;>intro h<;>try omega)
 .subst op;(first
             |exact Aa (NR ..) (C3 _) (As (by rfl))
             |exact Aa (NR ..) rfl (As (by rfl)))
 (refine d_ rfl rfl ?_ ?_<;>intro h<;>try omega)
 .subst op;(first
             |exact Aa (OI ..) (C3 _) (As (by rfl))
             |exact Aa (OI ..) rfl (As (by rfl)))
 (refine d_ rfl rfl ?_ ?_<;>intro h<;>try omega)
 subst op;(first
            |exact Aa (Vb ..) (C3 _) (As (by rfl))
            |exact Aa (Vb ..) rfl (As (by rfl)))
def vH (b:Bool):AQ 132 [.bool b] (.agg (f_ ⟨1,tI b,some 0⟩)):=by refine BV [none] [.bool b] zE ki rfl rfl rfl rfl rfl (by kernel_rfl) λY hf hg=>?_;unfold ki;cases b;exact AC (t:=false) rfl (λh=>by cases h) (λh=>As rfl);exact AC (t:=true) rfl (λh=>As rfl) (λh=>by cases h)
def JJ_ {k:Int} (h:2<=k/\k<=4):AQ 198 [.int .i64 k] (.tup [fv (some (Fo k)),.bool true]):=by
 refine BV [none] [.int .i64 k] vt ek rfl rfl rfl rfl rfl (by kernel_rfl) λY hf hg=>?_;unfold ek
 (refine d_ rfl rfl ?_ ?_<;>intro h<;>try omega)
 subst k;exact As rfl
 (refine d_ rfl rfl ?_ ?_<;>intro h<;>try omega)
 subst k;exact As rfl
 (refine d_ rfl rfl ?_ ?_<;>intro h<;>try omega)
 subst k;exact As rfl
def fP {k:Int} (h:2<=k/\k<=4):Op.negFloat .f64 (Fo k)=GD k:=by rcases (by omega:k=2\/k=3\/k=4)with rfl|rfl|rfl<;>kernel_rfl
def HB (k:Int) (f:Option Nat):Int:=(N_ k f).getD 0
def Fw (k:Int) (f:Option Nat):Int:=if (N_ k f).isSome then 0 else 7
def jX {k:Int} {f:Option Nat} {n:Int} (h:2<=k/\k<=4) (hn:N_ k f=some n):(XOp.conv 60 2).run Tryz.prog [fv (DX f)]=some (.int .i64 n):=by
 have hi:=(fQ h hn).i64;unfold N_ at hn;split at hn;· cases hn
 split at hn;· cases hn
 split at hn;exact wm Tryz.underlying60 Tryz.underlying2 hn hi.1 hi.2;cases hn
def ep {k:Int} {f:Option Nat} (h:2<=k/\k<=4) (h0:DV f=false) (h1:Bw (DX f) (some (Fo k))≠some .lt) (h2:Bw (DX f) (some (GD k))=some .lt):∃n,N_ k f=some n:=by unfold N_;rw [h0,Ab (by decide),Ab h1,Ad h2];rcases (by omega:k=2\/k=3\/k=4)with rfl|rfl|rfl;obtain ⟨m,e,a,b⟩:=N6 (k:=15) (j:= -37) rfl (by kernel_rfl) (by kernel_rfl) h1 h2;exact ⟨m,e⟩;obtain ⟨m,e,a,b⟩:=N6 (k:=31) (j:= -21) rfl (by kernel_rfl) (by kernel_rfl) h1 h2;exact ⟨m,e⟩;obtain ⟨m,e,a,b⟩:=N6 (k:=63) (j:=11) rfl (by kernel_rfl) (by kernel_rfl) h1 h2;exact ⟨m,e⟩
def cY {k:Int} (h:2<=k/\k<=4):DV (some (Fo k))=false/\DV (some (GD k))=false:=by rcases (by omega:k=2\/k=3\/k=4)with rfl|rfl|rfl<;>exact ⟨by kernel_rfl,by kernel_rfl⟩
def oN {k:Int} {f:Option Nat} {n:Int} (h:N_ k f=some n):AV.tup [.int .i64 n,.int .i64 0]=.tup [.int .i64 (HB k f),.int .i64 (Fw k f)]:=by unfold HB Fw;rw [h];rfl
def PN {k:Int} {f:Option Nat} (h:N_ k f=none):AV.tup [.int .i64 0,.int .i64 7]=.tup [.int .i64 (HB k f),.int .i64 (Fw k f)]:=by unfold HB Fw;rw [h];rfl
def pG {k:Int} (h:2<=k/\k<=4) {f:Option Nat} (hn:DV f=false):(Bw (DX f) (some (Fo k))==some .gt||Bw (DX f) (some (Fo k))==some .eq)= !(Bw (DX f) (some (Fo k))==some .lt):=by obtain ⟨o,e⟩:=nI (a:=DX f) (b:=some (Fo k)) (by rw [XJ];exact hn) (cY h).1;rw [e];cases o<;>rfl
def j7 {k:Int} (h:2<=k/\k<=4) {f:Option Nat} (hn:DV f=false):(Bw (DX f) (some (GD k))==some .gt||Bw (DX f) (some (GD k))==some .eq)= !(Bw (DX f) (some (GD k))==some .lt):=by obtain ⟨o,e⟩:=nI (a:=DX f) (b:=some (GD k)) (by rw [XJ];exact hn) (cY h).2;rw [e];cases o<;>rfl
def xT {k:Int} (h:2<=k/\k<=4) (f:Option Nat):AQ 164 [.int .i64 k,fv f] (.tup [.int .i64 (HB k f),.int .i64 (Fw k f)]):=by
 refine BV [none,none] [.int .i64 k,fv f] Il_ mw rfl (Jh_ ..) rfl rfl rfl (by kernel_rfl) λY hf hg=>?_;unfold mw;refine Ar (JJ_ h) rfl rfl (Aa rfl rfl (AC (t:=false) rfl (λh=>by cases h) (λ_=>?_)));refine Ar (d6 f) rfl (by simp only [Ak,C3]) (Aa (hJ ..) rfl (AC rfl (λh1=>?_) (λh1=>?_)))
 .refine Aa (RG ..) (C3 _) (Aa (OI ..) rfl (AC rfl (λh2=>?_) (λh2=>?_)))
  .have h2:(Bw (DX f) (some (Op.negFloat .f64 (Fo k)))==some .lt)=true:=h2;rw [fP h]at h2;have hn:DV f=false:=by
    cases hc:DV f with
    |false=>rfl
    |true=>rw [yW (by rw [XJ];exact hc)]at h2;cases h2
   rw [pG h hn]at h1;obtain ⟨n,hw⟩:=ep h hn (λe=>by rw [e]at h1;cases h1) (by simpa using h2);exact Aa (jX h hw) rfl (As (oN hw))
  .have h2:(Bw (DX f) (some (Op.negFloat .f64 (Fo k)))==some .lt)=false:=h2;rw [fP h]at h2;refine As (PN ?_);unfold N_;split;· rfl
   split;· rfl
   split;rename_i e;rw [e]at h2;cases h2;rfl
 .refine As (PN ?_);unfold N_;split;· rfl
  rename_i hn;have hn:DV f=false:=(by simpa using hn);rw [pG h hn]at h1;rw [Ad (by simpa using h1)]
def Rm (f:Option Nat):Ak [fv f]=true:=by cases f<;>rfl
def ZM (k:Int) (f:Option Nat):Gt [.int .i64 k,fv f]=true:=by cases f<;>rfl
theorem UE (f:Option Nat):(Bw f f !=some .eq)=DV f:=by show (!(Bw f f==some .eq))=_;rw [rY,Bool.not_not]
def Yk {k:Int} (h:2<=k/\k<=4) (f:Option Nat) {Y:Sy} {L:List (Nat->List AV->Prop)}:AB Tryz.prog (· =.tup [.int .i64 (HB k f),.int .i64 (Fw k f)]) L (Y.puts 64 [fv f]) (PF (Fo k) (GD k)):=by unfold PF;refine Ar (d6 f) rfl (Rm _) (Aa (NR ..) rfl (AC rfl (λh1=>?_) (λh1=>?_)));rw [UE]at h1;refine As (PN ?_);unfold N_;rw [Ad h1];rw [UE]at h1;refine Aa (OI _ _ _ (DX f) (some (Fo k))) rfl (AC rfl (λh2=>?_) (λh2=>?_));refine As (PN ?_);unfold N_;rw [h1,Ab (by decide),Ad (by simpa using h2)];refine Aa (hJ _ _ _ (DX f) (some (GD k))) rfl (AC rfl (λh3=>?_) (λh3=>?_));refine As (PN ?_);rw [j7 h h1]at h3;unfold N_;rw [h1,Ab (by decide),Ab (by simpa using h2),Ab (by simpa using h3)];rw [j7 h h1]at h3;obtain ⟨n,hw⟩:=ep h h1 (by simpa using h2) (by simpa using h3);exact Aa (jX h hw) rfl (As (oN hw))
def Jy_ {k:Int} (h:2<=k/\k<=4) (f:Option Nat):AQ 129 [.int .i64 k,fv f] (.tup [.int .i64 (HB k f),.int .i64 (Fw k f)]):=by rcases (by omega:k=2\/k=3\/k=4)with rfl|rfl|rfl;exact EY (args':=[.int .i64 2,.sym 64]) (ls:=[fv f]) (c:=WO) (n:=300) (t:=PF (Fo 2) (GD 2)) mo ov (ZM ..) rfl (Rm ..) rfl (λY _=>rfl) (λY _=>Ck _) rfl (by kernel_rfl) λY hf hg=>Yk h f;exact EY (args':=[.int .i64 3,.sym 64]) (ls:=[fv f]) (c:=WO) (n:=300) (t:=PF (Fo 3) (GD 3)) mo ov (ZM ..) rfl (Rm ..) rfl (λY _=>rfl) (λY _=>Ck _) rfl (by kernel_rfl) λY hf hg=>Yk h f;exact EY (args':=[.int .i64 4,.sym 64]) (ls:=[fv f]) (c:=WO) (n:=300) (t:=PF (Fo 4) (GD 4)) mo ov (ZM ..) rfl (Rm ..) rfl (λY _=>rfl) (λY _=>Ck _) rfl (by kernel_rfl) λY hf hg=>Yk h f
def Jj_ (k:Int) (v:FV):Ak ([.int .i64 k]++f_ v)=true:=by show Ak (.int .i64 k::f_ v)=true;rw [CL];exact B2 v
def LL (v:FV) (e:Int):Ak (f_ v++[.int .i64 e])=true:=A5.okL_join (B2 v) rfl
def cD (v:FV) (e:Int):BP (.tup [.agg (f_ v),.int .i64 e])=true:=by rcases v with ⟨k,i,f⟩;cases f<;>rfl
def IB (k:Int) (v:FV):FV:=match J_ k v with
 | .ok w=>w
 | .error _=>FV.z
def IQ (k:Int) (v:FV):Int:=match J_ k v with
 | .ok _=>0
 | .error e=>e
def U7 {k:Int} {v w:FV} (h:J_ k v=.ok w):IB k v=w/\IQ k v=0:=by unfold IB IQ;rw [h];exact ⟨rfl,rfl⟩
def uL {k e:Int} {v:FV} (h:J_ k v=.error e):IB k v=FV.z/\IQ k v=e:=by unfold IB IQ;rw [h];exact ⟨rfl,rfl⟩
def pM (i:Int):(XOp.conv 2 60).run Tryz.prog [.int .i64 i]=some (fv (some (FloatKind.f64.nearest i))):=rfl
def p85 {k:Int} (h:2<=k/\k<=5) (v:FV) (hv:1<=v.k/\v.k<=5):AQ 85 [.int .i64 k,.agg (f_ v)] (.tup [.agg (f_ (IB k v)),.int .i64 (IQ k v)]):=by
 refine BV [none,some 3] ([.int .i64 k]++f_ v) c85 dH rfl (Jj_ ..) (cD ..) rfl rfl (by kernel_rfl) λY hf hg=>?_;unfold dH;have fin:∀{w:FV} {e:Int},IB k v=w/\IQ k v=e->AV.tup [.agg (f_ w),.int .i64 e]=.tup [.agg (f_ (IB k v)),.int .i64 (IQ k v)]:=λ⟨h1,h2⟩=>by rw [h1,h2]
 (refine d_ rfl rfl ?_ ?_<;>intro h<;>try omega)
 .have e5:=h;subst e5
  (refine d_ rfl rfl ?_ ?_<;>intro h<;>try omega)
  exact As (fin (U7 (by unfold J_;rw [Ad rfl,Ad ‹v.k=5›])))
  ·(refine d_ rfl rfl ?_ ?_<;>intro h<;>try omega)
   refine Aa (pM _) rfl (As (fin (w:=⟨5,0,some (FloatKind.f64.nearest v.i)⟩) (U7 (by unfold J_;rw [Ad rfl,Ab ‹¬v.k=5›]))))
 have hk:2<=k/\k<=4:=by omega
 (refine d_ rfl rfl ?_ ?_<;>intro h<;>try omega)
 (refine d_ rfl rfl ?_ ?_<;>intro h<;>try omega)
 .have h5:=h;refine Ar (Jy_ hk v.f) rfl rfl ?_;cases hw:N_ k v.f with
  |some n=>
   have e1:Fw k v.f=0:=(by unfold Fw;rw [hw];rfl);have e2:HB k v.f=n:=(by unfold HB;rw [hw];rfl);rw [e1,e2]
   (refine d_ rfl rfl ?_ ?_<;>intro h<;>try omega)
   exact As (fin (w:=⟨k,n,some 0⟩) (U7 (by unfold J_;rw [Ab (by omega),Ad h5,hw])))
  |none=>
   have e1:Fw k v.f=7:=(by unfold Fw;rw [hw];rfl);rw [e1]
   (refine d_ rfl rfl ?_ ?_<;>intro h<;>try omega)
   exact As (fin (w:=FV.z) (uL (by unfold J_;rw [Ab (by omega),Ad h5,hw])))
 have h5:=h;refine Ar (LE (by omega) _) rfl rfl (As (fin (w:=⟨k,K_ k v.i,some 0⟩) (U7 (by unfold J_;rw [Ab (by omega),Ab h5]))))
def JG:List Int:=[2,1,2,1,2,3,5,4,2,2,2,2,1,4,1,4,1,2,1,1,1]
def Aj (mem:List FV):Prop:=mem.map FV.k=JG/\∀v∈mem,TV v
def cell (mem:List FV) (n:Int):FV:=mem.getD n.toNat FV.z
def D5 (mem:List FV) (op kd ad n:Int) (a b:FV):Except Int FV:=
 if op=3 then (if a.i<0\/n<=a.i then .error 6 else .ok (cell mem (ad+a.i)))
 else if op=17 then J_ kd a
 else if C9 op a.k b=0 then .ok (E6 op a.k a b)else .error (C9 op a.k b)
mutual
def o_ (mem:List FV):GX->Except Int FV
 | .mk op kd nm fd ad n vk vi vf ag=>if op=1 then .ok ⟨vk,vi,some vf⟩else if op=2 then .ok (cell mem ad)else match u_ mem ag with
   | .error e=>.error e
   | .ok l=>D5 mem op kd ad n (l.headD FV.z) (l.getLastD FV.z)
def u_ (mem:List FV):List GX->Except Int (List FV)
 |[]=>.ok []
 |a::r=>match o_ mem a with
  | .error e=>.error e
  | .ok v=>match u_ mem r with
    | .error e=>.error e
    | .ok l=>.ok (v::l)
end
section
variable {mem:List FV}
theorem Aj.len (h:Aj mem):mem.length=21:=by have:=congrArg List.length h.1;rw [List.length_map]at this;exact this
def Tn {n:Nat} (h:n<mem.length):cell mem (n:Int)=mem[n]:=by unfold cell;rw [Int.toNat_natCast,List.getD_eq_getElem?_getD,List.getElem?_eq_getElem h];rfl
theorem Aj.cell (h:Aj mem) {n:Int} (h1:0<=n) (h2:n<21):TV (cell mem n)/\(cell mem n).k=JG.getD n.toNat 0:=by
 obtain ⟨m,rfl⟩:∃m:Nat,n=(m:Int):=⟨n.toNat,by omega⟩;have hl:=h.len;have hm:m<mem.length:=by omega
 rw [Tn hm];refine ⟨h.2 _ (L9 hm),?_⟩;have:JG=mem.map FV.k:=h.1.symm;rw [this,Int.toNat_natCast,List.getD_eq_getElem?_getD,List.getElem?_map,List.getElem?_eq_getElem hm];rfl
def Et:∀t∈IF,0<=t.1/\t.1<21/\JG.getD t.1.toNat 0=t.2:=by decide
def yU {d:Nat} {op kd:Int} {nm fd:List UInt8} {ad n vk vi:Int} {vf:Nat} {ag:List GX} (h:TX d (.mk op kd nm fd ad n vk vi vf ag)):1<=op/\op<=17:=by
 cases d with
 |zero=>exact h.elim
 |succ d=>have:=h.1;unfold Cz at this;omega
def CX_ {op b:Int}:CH op b=0\/CH op b=5:=by unfold CH;split;exact .inr rfl;exact .inl rfl
def yX {op k:Int} {b:FV}:C9 op k b=0\/C9 op k b=5:=by unfold C9;split;exact .inl rfl;exact CX_
def nB (l:List GX) (vs:List FV):Prop:=vs.map FV.k=l.map GX.kd/\∀v∈vs,TV v
def T6 {d:Nat} (hx:∀x,TX d x->∀v,o_ mem x=.ok v->TV v/\v.k=x.kd):∀(l:List GX),(∀a∈l,TX d a)->∀vs,u_ mem l=.ok vs->nB l vs
 |[],_,vs,h=>by simp only [u_,Except.ok.injEq]at h;subst h;exact ⟨rfl,λv hv=>(List.not_mem_nil hv).elim⟩
 |a::r,hl,vs,h=>by simp only [u_]at h;split at h;cases h;rename_i v hv;split at h;cases h;rename_i ws hw;cases h;obtain ⟨h1,h2⟩:=T6 hx r (λb hb=>hl b (zd' _ hb)) ws hw;obtain ⟨h3,h4⟩:=hx a (hl a za') v hv;refine ⟨by simp only [List.map_cons,h4,h1],λu hu=>?_⟩;rcases List.mem_cons.1 hu with rfl|hu;exact h3;exact h2 u hu
def Ed_ {op:Int} {n:Nat} (h:Cz op n) (h1:op≠1) (h2:op≠2):op=3\/op=17\/op=15\/op=16\/(4<=op/\op<=14):=by unfold Cz at h;omega
def Gp {vs:List FV} {k:Int} (h:vs.map FV.k=[k]):∃a,vs=[a]/\a.k=k:=by
 match vs,h with
 |[],h=>cases h
 |[a],h=>exact ⟨a,rfl,by simpa using h⟩
 |_::_::_,h=>simp at h
def JX {vs:List FV} {k l:Int} (h:vs.map FV.k=[k,l]):∃a b,vs=[a,b]/\a.k=k/\b.k=l:=by
 match vs,h with
 |[],h=>cases h
 |[a],h=>simp at h
 |[a,b],h=>exact ⟨a,b,rfl,by simpa using h⟩
 |_::_::_::_,h=>simp at h
def ot {d:Nat} {op kd:Int} {nm fd:List UInt8} {ad n vk vi:Int} {vf:Nat} {ag:List GX} (hm:Aj mem) (h:TX (d+1) (.mk op kd nm fd ad n vk vi vf ag)) (h1:op≠1) (h2:op≠2) {vs:List FV} (hv:nB ag vs):
  ∃a b:FV,vs.headD FV.z=a/\vs.getLastD FV.z=b/\TV a/\TV b/\(op=3->(a.k=2\/a.k=3)/\vs=[a])/\(op=17->2<=a.k/\a.k<=5/\vs=[a])/\(op≠3->op≠17->CS op a.k/\b.k=a.k/\(if 9<=op/\op<=12 then 1 else a.k)=kd/\(vs=[a]/\(op=15\/op=16)\/vs=[a,b]/\op<=14))/\
   ∀v,D5 mem op kd ad n a b=.ok v->TV v/\v.k=kd:=by
 obtain ⟨a1,a2,a3,a4,⟨k1,k2,k3,k4,k5,k6,k7⟩,a6⟩:=h;have hop:=Ed_ a1 h1 h2;have hks:=hv.1;have key:∀a b:FV,TV a->TV b->(op=3->ad=8/\n=4/\kd=2)->(op=17->2<=kd/\kd<=5)->(op≠3->op≠17->CS op a.k/\b.k=a.k/\(if 9<=op/\op<=12 then 1 else a.k)=kd)->∀v,D5 mem op kd ad n a b=.ok v->TV v/\v.k=kd:=by
  intro a b ha hb e3 e17 eo v hf;unfold D5 at hf;split at hf
  .rename_i e;obtain ⟨rfl,rfl,rfl⟩:=e3 e;split at hf;cases hf
   .rename_i hr;cases hf;have hr1:0<=a.i/\a.i<4:=(by omega);obtain ⟨p,q⟩:=hm.cell (n:=8+a.i) (by omega) (by omega);refine ⟨p,?_⟩;rw [q];rcases (by omega:a.i=0\/a.i=1\/a.i=2\/a.i=3)with e|e|e|e<;>rw [e]<;>rfl
  rename_i n3;split at hf;rename_i e;exact dW (e17 e) ha hf;rename_i n17;obtain ⟨q1,q2,q3⟩:=eo n3 n17;split at hf;cases hf;exact ⟨mr q1 ha rfl,by rw [nS q1,q3]⟩;cases hf
 rcases hop with e|e|e|e|e;obtain ⟨r1,r2,r3,k,r4,r5⟩:=k3 e;rw [r4]at hks;obtain ⟨a,rfl,hk⟩:=Gp hks;clear k1 k2 k3 k4 k5 k6 k7;have ha:=hv.2 a za';exact ⟨a,a,rfl,rfl,ha,ha,λ_=>⟨by omega,rfl⟩,λh=>by omega,λh=>absurd e h,key a a ha ha (λ_=>⟨r1,r2,r3⟩) (λh=>by omega) (λh=>absurd e h)⟩;obtain ⟨r1,r2,k,r4,r5⟩:=k7 e;rw [r4]at hks;obtain ⟨a,rfl,hk⟩:=Gp hks;clear k1 k2 k3 k4 k5 k6 k7;have ha:=hv.2 a za';exact ⟨a,a,rfl,rfl,ha,ha,λh=>by omega,λ_=>⟨by omega,by omega,rfl⟩,λ_ h=>absurd e h,key a a ha ha (λh=>by omega) (λ_=>⟨r1,r2⟩) (λ_ h=>absurd e h)⟩;obtain ⟨r1,r4⟩:=k5 e;rw [r4]at hks;obtain ⟨a,rfl,hk⟩:=Gp hks;clear k1 k2 k3 k4 k5 k6 k7;have ha:=hv.2 a za';have ho:CS op a.k:=(by unfold CS;omega);have hi:(if 9<=op/\op<=12 then 1 else a.k)=kd:=(by rw [Ab (by omega)];omega);exact ⟨a,a,rfl,rfl,ha,ha,λh=>by omega,λh=>by omega,λ_ _=>⟨ho,rfl,hi,.inl ⟨rfl,.inl e⟩⟩,key a a ha ha (λh=>by omega) (λh=>by omega) (λ_ _=>⟨ho,rfl,hi⟩)⟩;obtain ⟨r4,r1,r2⟩:=k6 e;rw [r4]at hks;obtain ⟨a,rfl,hk⟩:=Gp hks;clear k1 k2 k3 k4 k5 k6 k7;have ha:=hv.2 a za';have ho:CS op a.k:=(by unfold CS;omega);have hi:(if 9<=op/\op<=12 then 1 else a.k)=kd:=(by rw [Ab (by omega)];omega);exact ⟨a,a,rfl,rfl,ha,ha,λh=>by omega,λh=>by omega,λ_ _=>⟨ho,rfl,hi,.inl ⟨rfl,.inr e⟩⟩,key a a ha ha (λh=>by omega) (λh=>by omega) (λ_ _=>⟨ho,rfl,hi⟩)⟩
 .obtain ⟨k,r4,r1,r2,r5,r6,r7,r8,r9⟩:=k4 e;rw [r4]at hks;obtain ⟨a,b,rfl,hk⟩:=JX hks
  .clear k1 k2 k3 k4 k5 k6 k7;have ha:=hv.2 a za';have hb:=hv.2 b (zd' _ za');have ho:CS op a.k:=(by unfold CS;omega);have hi:(if 9<=op/\op<=12 then 1 else a.k)=kd:=by by_cases h9:9<=op/\op<=12;rw [Ad h9];omega;rw [Ab h9];omega
   exact ⟨a,b,rfl,rfl,ha,hb,λh=>by omega,λh=>by omega,λ_ _=>⟨ho,by omega,hi,.inr ⟨rfl,by omega⟩⟩,key a b ha hb (λh=>by omega) (λh=>by omega) (λ_ _=>⟨ho,by omega,hi⟩)⟩
def bw {d:Nat} {op kd:Int} {nm fd:List UInt8} {ad n vk vi:Int} {vf:Nat} {ag:List GX} (h:TX (d+1) (.mk op kd nm fd ad n vk vi vf ag)) (h1:op=1):TV ⟨vk,vi,some vf⟩/\vk=kd:=by obtain ⟨q1,q2,q3,q4,q5,q6,q7,q8⟩:=h.2.2.2.2.1.1 h1;refine ⟨⟨?_,λh=>by rw [q8 h]⟩,q1.symm⟩;show Do vk vi;unfold Do;omega
def nP {d:Nat} {op kd:Int} {nm fd:List UInt8} {ad n vk vi:Int} {vf:Nat} {ag:List GX} (hm:Aj mem) (h:TX (d+1) (.mk op kd nm fd ad n vk vi vf ag)) (h2:op=2):TV (cell mem ad)/\(cell mem ad).k=kd/\0<=ad/\ad<21:=by have:=Et _ (h.2.2.2.2.1.2.1 h2);obtain ⟨p,q⟩:=hm.cell this.1 this.2.1;exact ⟨p,by rw [q];exact this.2.2,this.1,this.2.1⟩
def R6 (hm:Aj mem):∀(d:Nat) (x:GX),TX d x->∀v,o_ mem x=.ok v->TV v/\v.k=x.kd
 |0,_,h,_,_=>h.elim
 |d+1,.mk op kd nm fd ad n vk vi vf ag,h,v,hv=>by simp only [o_]at hv;split at hv;rename_i e;cases hv;exact bw h e;rename_i n1;split at hv;rename_i e;cases hv;obtain ⟨p,q,_⟩:=nP hm h e;exact ⟨p,q⟩;rename_i n2;split at hv;cases hv;rename_i vs hvs;have hV:=T6 (R6 hm d) ag h.2.2.2.2.2 vs hvs;obtain ⟨a,b,e1,e2,_,_,_,_,_,hf⟩:=ot hm h n1 n2 hV;rw [e1,e2]at hv;exact hf v hv
def iG {k e:Int} {v:FV} (h:J_ k v=.error e):e=7:=by
 unfold J_ at h;split at h
 .split at h<;>cases h
 split at h;split at h;cases h;cases h;rfl;cases h
def qK {op kd ad n:Int} {a b:FV} {e:Int} (h:D5 mem op kd ad n a b=.error e):e=5\/e=6\/e=7:=by unfold D5 at h;split at h;split at h;cases h;exact .inr (.inl rfl);cases h;split at h;exact .inr (.inr (iG h));split at h;cases h;rename_i hne;cases h;rcases yX (op:=op) (k:=a.k) (b:=b)with h0|h0;exact absurd h0 hne;exact .inl h0
mutual
theorem y_:∀(x:GX) (e:Int),o_ mem x=.error e->e=5\/e=6\/e=7
 | .mk op kd nm fd ad n vk vi vf ag,e,h=>by simp only [o_]at h;split at h;cases h;split at h;cases h;split at h;rename_i e' he;cases h;exact OA ag e he;exact qK h
theorem OA:∀(l:List GX) (e:Int),u_ mem l=.error e->e=5\/e=6\/e=7
 |[],e,h=>by simp [u_]at h
 |a::r,e,h=>by simp only [u_]at h;split at h;rename_i e' he;cases h;exact y_ a e he;split at h;rename_i e' he;cases h;exact OA r e he;cases h
end
end
def b_ (l:List FV):AV:=Cr f_ 3 l
theorem x_ (l:List FV):okC (b_ l)=true:=by
 unfold b_;cases l with
 |nil=>rfl
 |cons a r=>simp only [Cr,okC];exact A5 B2 (a::r)
def PJ (l:List FV):(XOp.len 34).run Tryz.prog [b_ l]=some (.int .i64 (l.length:Int)):=Uo Tryz.underlying34 l
def nQ (l:List FV) {i:Nat} (h:i<l.length):(XOp.iaddr 34).run Tryz.prog [b_ l,.int .i64 (i:Int)]=some (.vptr (Ay f_ (l.drop i))):=
 Bb (e:=62) (ti:=(Tryz.prog.info? 62).get!) Tryz.underlying34 (by kernel_rfl) (by kernel_rfl) FL h .i64
def jQ (l:List FV) {i:Nat} (h:i<l.length):(XOp.load 62).run Tryz.prog [.vptr (Ay f_ (l.drop i))]=some (.agg (f_ l[i])):=
 Bv (ti:=(Tryz.prog.info? 62).get!) Tryz.underlying62 rfl (by kernel_rfl) (by kernel_rfl) FL h
def Hv (op k:Int) (a b:FV):FV:=if C9 op k b=0 then E6 op k a b else FV.z
def bh {op:Int} (h:CS op 5):Lj op:=by unfold CS at h;unfold Lj;omega
def fV {op k:Int} {a b:FV} (ho:CS op k) (ha:TV a) (hk:a.k=k):AQ 86 [.int .i64 op,.int .i64 k,.agg (f_ a),.agg (f_ b)] (.tup [.agg (f_ (Hv op k a b)),.int .i64 (C9 op k b)]):=by
 have hok:Ak ([.int .i64 op,.int .i64 k]++(f_ a++f_ b))=true:=A5.okL_join (a:=[_,_]) rfl (A5.okL_join (B2 a) (B2 b));refine BV [none,none,some 3,some 3] ([.int .i64 op,.int .i64 k]++(f_ a++f_ b)) wz eM rfl hok (cD ..) rfl rfl (by kernel_rfl) λY hf hg=>?_;unfold eM;have fin:∀{w:FV} {e:Int},Hv op k a b=w->C9 op k b=e->AV.tup [.agg (f_ w),.int .i64 e]=.tup [.agg (f_ (Hv op k a b)),.int .i64 (C9 op k b)]:=λh1 h2=>by rw [h1,h2]
 (refine d_ rfl rfl ?_ ?_<;>intro h<;>try omega)
 .subst h;have hr:=bh ho;have he:C9 op 5 b=0:=rfl;have hw:Hv op 5 a b=KF op a.f b.f:=(by unfold Hv E6;rw [Ad he,Ad rfl]);rw [bq hr]at hw;refine Ar (Jz_ op a.f b.f hr) rfl (by simp only [Ak,okC,C3]) (Aa rfl rfl (AC (t:=false) rfl (λh=>by cases h) (λ_=>?_)))
  (refine d_ rfl rfl ?_ ?_<;>intro h<;>try omega)
  ·(refine d_ rfl rfl ?_ ?_<;>intro h<;>try omega)
   rw [Ad (by omega)]at hw;exact Ar (vH _) rfl rfl (As (fin hw he));rw [Ab (by omega)]at hw;exact As (fin hw he)
  rw [Ab (by omega)]at hw;exact As (fin hw he)
 have h5:=h;refine Ar (qJ op k a.i b.i ho h5 (hk▸ha.1)) rfl rfl ?_;have he:C9 op k b=CH op b.i:=by unfold C9;rw [Ab h5]
 (refine d_ rfl rfl ?_ ?_<;>intro h<;>try omega)
 have h0:=h;exact As (fin (w:=FV.z) (by unfold Hv;rw [he,Ab h0]) he);have h0:=h;have hi:H_ op k a.i b.i=Dr op k a.i b.i:=by unfold H_;rw [Ad h0]
 have hw:Hv op k a b=⟨if 9<=op/\op<=12 then 1 else k,H_ op k a.i b.i,some 0⟩:=by unfold Hv E6;rw [he,Ad h0,Ab h5,hi]
 rw [h0]at he
 (refine d_ rfl rfl ?_ ?_<;>intro h<;>try omega)
 ·(refine d_ rfl rfl ?_ ?_<;>intro h<;>try omega)
  rw [Ad (by omega)]at hw;exact As (fin hw he);rw [Ab (by omega)]at hw;exact As (fin hw he)
 rw [Ab (by omega)]at hw;exact As (fin hw he)
def RE0 (e:Int):Nat->List AV->Prop:=λj ws=>(j=0/\e=0/\ws=[])\/(j=1/\e≠0/\ws=[.int .i64 e])
def Dq (op:Int) (a b:FV):Except Int FV:=if C9 op a.k b=0 then .ok (E6 op a.k a b)else .error (C9 op a.k b)
def Vn (r:Except Int FV):FV:=match r with
 | .ok v=>v
 | .error _=>FV.z
def UQ (r:Except Int FV):Int:=match r with
 | .ok _=>0
 | .error e=>e
def Sc (r:Except Int FV):AV:=.tup [.agg (f_ (Vn r)),.int .i64 (UQ r)]
theorem yh (k:Int) (v:FV):AV.tup [.agg (f_ (IB k v)),.int .i64 (IQ k v)]=Sc (J_ k v):=by unfold IB IQ Sc Vn UQ;cases J_ k v<;>rfl
theorem nA (op:Int) (a b:FV):AV.tup [.agg (f_ (Hv op a.k a b)),.int .i64 (C9 op a.k b)]=Sc (Dq op a b):=by unfold Hv Dq Sc Vn UQ;split;rename_i h;rw [h];rfl
def L4 (l:List FV) (s:FV) (hl:l.length<=100000):(XOp.app 3 24).run Tryz.prog [b_ l,.agg (f_ s)]=some (b_ (l++[s])):=
 SZ FL (by decide) (by decide) l s (by omega)
def Iw (mem:List FV) (ag:List GX) (acc:List FV) (i:Nat):Prop:=u_ mem ag=(match u_ mem (ag.drop i)with
 | .error e=>.error e
 | .ok l=>.ok (acc++l))
def cI (mem:List FV) (ag:List GX):Iw mem ag [] 0:=by unfold Iw;rw [List.drop_zero];cases u_ mem ag<;>rfl
def ow {mem:List FV} {ag:List GX} {acc:List FV} {i:Nat} {e:Int} (h:Iw mem ag acc i) (hi:i<ag.length) (he:o_ mem ag[i]=.error e):u_ mem ag=.error e:=by unfold Iw at h;rw [h,Cc hi,u_,he]
def kC {mem:List FV} {ag:List GX} {acc:List FV} {i:Nat} {v:FV} (h:Iw mem ag acc i) (hi:i<ag.length) (he:o_ mem ag[i]=.ok v):Iw mem ag (acc++[v]) (i+1):=by
 unfold Iw at*;rw [h,Cc hi,u_,he];cases u_ mem (ag.drop (i+1))with
 |error e=>rfl
 |ok l=>simp
def iu {mem:List FV} {ag:List GX} {acc:List FV} (h:Iw mem ag acc ag.length):u_ mem ag=.ok acc:=by unfold Iw at h;rw [List.drop_length,u_]at h;simpa using h
def tN {mem:List FV} {op kd:Int} {nm fd:List UInt8} {ad n vk vi:Int} {vf:Nat} {ag:List GX} (h1:op≠1) (h2:op≠2) {l:List FV} (h:u_ mem ag=.ok l):o_ mem (.mk op kd nm fd ad n vk vi vf ag)=D5 mem op kd ad n (l.headD FV.z) (l.getLastD FV.z):=by rw [o_,Ab h1,Ab h2,h]
def su {mem:List FV} {op kd:Int} {nm fd:List UInt8} {ad n vk vi:Int} {vf:Nat} {ag:List GX} (h1:op≠1) (h2:op≠2) {e:Int} (h:u_ mem ag=.error e):o_ mem (.mk op kd nm fd ad n vk vi vf ag)=.error e:=by rw [o_,Ab h1,Ab h2,h]
def uX {mem:List FV} {op kd:Int} {nm fd:List UInt8} {ad n vk vi:Int} {vf:Nat} {ag:List GX} (h1:op=1):o_ mem (.mk op kd nm fd ad n vk vi vf ag)=.ok ⟨vk,vi,some vf⟩:=by rw [o_,Ad h1]
def yF {mem:List FV} {op kd:Int} {nm fd:List UInt8} {ad n vk vi:Int} {vf:Nat} {ag:List GX} (h1:op=2):o_ mem (.mk op kd nm fd ad n vk vi vf ag)=.ok (cell mem ad):=by rw [o_,Ab (by omega),Ad h1]
def EL_ {op:Int} {a:FV} (b c:FV) (h:op=15\/op=16) (ho:CS op a.k):Dq op a b=Dq op a c:=by
 have e:∀d:FV,C9 op a.k d=0:=λd=>by unfold C9;split;rfl;exact EH (by omega)
 have v:E6 op a.k a b=E6 op a.k a c:=by
  unfold E6;split;rename_i h5;have h16:op=16:=(by unfold CS at ho;omega);subst h16;rfl
  .rcases h with rfl|rfl<;>rfl
 unfold Dq;rw [Ad (e b),Ad (e c),v]
def T7:GX->List AV
 | .mk op kd nm fd ad n vk vi vf ag=>[.int .i64 kd,.str nm,.str fd,.int .i64 ad,.int .i64 n,.int .i64 vk,.int .i64 vi,.flt .f64 vf,Db ag]
def gW (y:GX) (r:List AV):(XOp.faddr 108 1).run Tryz.prog [.vptr (v_ y++r)]=some (.vptr (T7 y++r)):=by obtain ⟨yo,yk',ynm,yfd,yad,yn,yvk,yvi,yvf,ya⟩:=y;rfl
def gO (y:GX):Ak (T7 y)=true:=by obtain ⟨yo,yk',ynm,yfd,yad,yn,yvk,yvi,yvf,ya⟩:=y;simp only [T7,Ak,okC,D4]
def lV (y:GX) (r:List AV):(XOp.load 3).run Tryz.prog [.vptr (T7 y++r)]=some (.int .i64 y.kd):=by obtain ⟨yo,yk',ynm,yfd,yad,yn,yvk,yvi,yvf,ya⟩:=y;exact NN Tryz.underlying3 rfl _ _
def lP {l:List GX} {k:Int} (h:l.map GX.kd=[k]):∃y,l=[y]/\y.kd=k:=by
 match l,h with
 |[],h=>cases h
 |[a],h=>exact ⟨a,rfl,by simpa using h⟩
 |_::_::_,h=>simp at h
def BU_ {l:List GX} {k m:Int} (h:l.map GX.kd=[k,m]):∃y z,l=[y,z]/\y.kd=k/\z.kd=m:=by
 match l,h with
 |[],h=>cases h
 |[a],h=>simp at h
 |[a,b],h=>exact ⟨a,b,rfl,by simpa using h⟩
 |_::_::_::_,h=>simp at h
end Go.Proofs.YtelnbodnjmldeaaGreat.vars
namespace Go.Sx
section
variable {P:Program} {t:TypeId} {ti:TypeInfo} {α:Type} {enc:α->List AV} {w:Nat}
def H9 {d:TypeDesc} (ht:P.underlying t=some d) (ha:IG d=false) (hw:∀a,(enc a).length=w) {l:List α} {i:Nat} (hi:i<l.length) {off:Nat} {v:AV} {p r:List AV} (he:enc l[i]=p++(v::r)) (hp:p.length=off) (k:IntKind):(XOp.ldx t w off).run P [Cr enc w l,.int k (i:Int)]=some v:=by
 obtain ⟨a,b,e1,e2,_⟩:=XZ hw l hi;obtain ⟨x0,l',rfl⟩:∃x l',l=x::l':=by cases l with|nil=>simp at hi|cons x l'=>exact ⟨x,l',rfl⟩
 show Dj P (Gd (Ay enc (x0::l'))) t (.ptr 0 (i*w+off))=_;unfold Dj;simp only [ht,ha];have hg:(Gd (Ay enc (x0::l'))).get 0=some (.cells (Ay enc (x0::l'))):=rfl;unfold Du;simp only [hg];have hd:Bj (i*w+off) (Ay enc (x0::l'))=v::(r++b):=by rw [DT,e1,he,←e2,←hp];rw [show a++(p++v::r++b)=(a++p)++(v::(r++b)) by simp [Be]];rw [←List.length_append,List.drop_left]
 rw [hd];rfl
def Fc {d:TypeDesc} (ht:P.underlying t=some d) (ha:IG d=true) (hinf:P.info? t=some ti) (hs:ti.size=w) (hw:∀a,(enc a).length=w) {l:List α} {i:Nat} (hi:i<l.length) (k:IntKind):(XOp.ldx t w 0).run P [Cr enc w l,.int k (i:Int)]=some (.agg (enc l[i])):=by
 obtain ⟨a,b,e1,e2,_⟩:=XZ hw l hi;obtain ⟨x0,l',rfl⟩:∃x l',l=x::l':=by cases l with|nil=>simp at hi|cons x l'=>exact ⟨x,l',rfl⟩
 show Dj P (Gd (Ay enc (x0::l'))) t (.ptr 0 (i*w+0))=_;unfold Dj;simp only [ht,ha,hinf];have hg:(Gd (Ay enc (x0::l'))).get 0=some (.cells (Ay enc (x0::l'))):=rfl;unfold Du;simp only [hg];have hd:Bj (i*w+0) (Ay enc (x0::l'))=enc (x0::l')[i]++b:=by rw [DT,e1,Nat.add_zero,←e2,List.drop_left]
 have hl:ti.size=(enc (x0::l')[i]).length:=by rw [hs,hw]
 rw [hd,hl,Lm]
end
end Go.Sx
