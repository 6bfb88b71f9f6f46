/-
  The document's whole numbers.
-/
import Derived.Test.YtelnbodnjmldeaaGreatV4
import Derived.Test.YtelnbodnjmldeaaGreatFA
import Derived.WalkKit
import Derived.ProofKit
import Derived.Laws.Externs
import Derived.Lib.Hide
set_option linter.all false
set_option maxHeartbeats 1000000
set_option maxRecDepth 100000
open Int renaming tmod_lt_of_pos→za'
open Bool renaming false_ne_true→zb'
namespace Go.Proofs.YtelnbodnjmldeaaGreat.vars
open Go Go.Sx
def x8:VC:=⟨⟨[],[]⟩,[],[],0,true,[]⟩
def nB:VT:=.ite 64 (.done (J 1))<|.done (J 0)
def HL_:VC:=⟨⟨[],[]⟩,[],[],0,true,[]⟩
def nt:VT:=Iq 64 2 65 (.done (J 16))<|Iq 64 3 66 (.done (J 32))<|Iq 64 4 67 (.done (J 64))<|.done (J 0)
def vP:VC:=⟨⟨[],[]⟩,[(171,[none])],[],0,true,[]⟩
def fY:VT:=Li Qc [64,J 0] 65<|.call 171 [65] 66 [none]<|.done (66)
def sX:VC:=⟨⟨[],[]⟩,[(171,[none])],[],0,true,[]⟩
def oO:VT:=Li Zl [64,J 65536] 65<|It Z8 [65,J 0] 66 (Li Zk [65,J 65536] 67<|It Qu [67,J 32768] 68 (Li Zh [67,J 65536] 69<|.done (69))<|.done (67))<|It Qu [65,J 32768] 67 (Li Zh [65,J 65536] 68<|.done (68))<|.done (65)
def w0:VC:=⟨⟨[],[]⟩,[(171,[none])],[],0,true,[]⟩
def jl:VT:=Li Zl [64,J 4294967296] 65<|It Z8 [65,J 0] 66 (Li Zk [65,J 4294967296] 67<|It Qu [67,J 2147483648] 68 (Li Zh [67,J 4294967296] 69<|.done (69))<|.done (67))<|It Qu [65,J 2147483648] 67 (Li Zh [65,J 4294967296] 68<|.done (68))<|.done (65)
def yY:VC:=⟨⟨[],[]⟩,[(171,[none])],[],0,true,[]⟩
def iS:VT:=.done (64)
def yX:VC:=⟨⟨[],[]⟩,[(171,[none])],[],0,true,[]⟩
def cI:VT:=.done (J 0)
def yj:VC:=⟨⟨[],[]⟩,[(130,[none]),(171,[none]),(172,[none])],[],0,true,[]⟩
def lZ:VT:=Iq 65 1 68 (Iq 64 13 69 (It Qc [66,J 0] 70 (Li Qc [67,J 0] 71<|.call 171 [71] 72 [none]<|.done (.tup [72,J 0]))<|.call 171 [.bool false] 71 [none]<|.done (.tup [71,J 0]))<|Iq 64 14 70 (It Qc [66,J 0] 71 (.call 171 [.bool true] 72 [none]<|.done (.tup [72,J 0]))<|Li Qc [67,J 0] 72<|.call 171 [72] 73 [none]<|.done (.tup [73,J 0]))<|Iq 64 15 71 (Li Qt [66,J 0] 72<|.call 171 [72] 73 [none]<|.done (.tup [73,J 0]))<|Iq 64 9 72 (Li Qq [66,67] 73<|.call 171 [73] 74 [none]<|.done (.tup [74,J 0]))<|Iq 64 10 73 (Li Ua [66,67] 74<|.call 171 [74] 75 [none]<|.done (.tup [75,J 0]))<|Dn [J 4])<|.call 172 [65] 69 [none]<|Iq 69 0 70 (Dn [J 4])<|Iq 64 4 71 (Li Zk [66,67] 72<|.call 130 [65,72] 73 [none]<|.done (.tup [73,J 0]))<|Iq 64 5 72 (Li Zh [66,67] 73<|.call 130 [65,73] 74 [none]<|.done (.tup [74,J 0]))<|Iq 64 6 73 (Li Uv [66,67] 74<|.call 130 [65,74] 75 [none]<|.done (.tup [75,J 0]))<|Iq 64 16 74 (Li Zb [66] 75<|.call 130 [65,75] 76 [none]<|.done (.tup [76,J 0]))<|Iq 64 7 75 (It Qt [67,J 0] 76 (Dn [J 5])<|It Qt [67,.int .i64 (-1)] 77 (Iq 64 8 78 (Dn [J 0])<|Li Zb [66] 79<|.call 130 [65,79] 80 [none]<|.done (.tup [80,J 0]))<|Iq 64 8 78 (Li Zl [66,67] 79<|.done (.tup [79,J 0]))<|Li Ub [66,67] 79<|.done (.tup [79,J 0]))<|Iq 64 8 76 (It Qt [67,J 0] 77 (Dn [J 5])<|It Qt [67,.int .i64 (-1)] 78 (Iq 64 8 79 (Dn [J 0])<|Li Zb [66] 80<|.call 130 [65,80] 81 [none]<|.done (.tup [81,J 0]))<|Iq 64 8 79 (Li Zl [66,67] 80<|.done (.tup [80,J 0]))<|Li Ub [66,67] 80<|.done (.tup [80,J 0]))<|Iq 64 9 77 (Li Qq [66,67] 78<|.call 171 [78] 79 [none]<|.done (.tup [79,J 0]))<|Iq 64 10 78 (Li Ua [66,67] 79<|.call 171 [79] 80 [none]<|.done (.tup [80,J 0]))<|Iq 64 11 79 (Li Uu [66,67] 80<|.call 171 [80] 81 [none]<|.done (.tup [81,J 0]))<|Iq 64 12 80 (Li Zy [66,67] 81<|.call 171 [81] 82 [none]<|.done (.tup [82,J 0]))<|Dn [J 4]
def CT (b:Bool):AJ 171 [.bool b] (.int .i64 (tI b)):=by refine Bx [none] [.bool b] x8 nB rfl rfl rfl rfl rfl (by kernel_rfl) λY hf hg=>?_;unfold nB;cases b;exact Ax (t:=false) rfl (λh=>by cases h) (λh=>Ap rfl);exact Ax (t:=true) rfl (λh=>Ap rfl) (λh=>by cases h)
def Ry (k:Int):Int:=if k=2 then 16 else if k=3 then 32 else if k=4 then 64 else 0
def uU (k:Int):AJ 172 [.int .i64 k] (.int .i64 (Ry k)):=by
 refine Bx [none] [.int .i64 k] HL_ nt rfl rfl rfl rfl rfl (by kernel_rfl) λY hf hg=>?_;unfold nt
 (refine b_ rfl rfl ?_ ?_<;>intro h<;>try omega)
 subst h;exact Ap rfl
 (refine b_ rfl rfl ?_ ?_<;>intro h<;>try omega)
 subst h;exact Ap rfl
 (refine b_ rfl rfl ?_ ?_<;>intro h<;>try omega)
 subst h;exact Ap rfl;refine Ap ?_;have:Ry k=0:=by unfold Ry;simp only [*,if_false]
 rw [this];rfl
def Ks (n x:Int):Int:=if x.tmod n<0 then (if n/2<=x.tmod n+n then x.tmod n+n-n else x.tmod n+n)else (if n/2<=x.tmod n then x.tmod n-n else x.tmod n)
def Uh (x n:Int) (hn:0<n): -n<x.tmod n/\x.tmod n<n:=by refine ⟨?_,za' x hn⟩;have:=za' (-x) hn;rw [Int.neg_tmod]at this;omega
def dC (x n:Int) (hn:0<n):x.tmod n=x%n\/(x.tmod n=x%n-n/\x%n≠0):=by rw [Int.tmod_eq_emod];split;left;omega;rename_i h;right;have h2:¬n ∣ x:=λhd=>h (.inr hd);have:x%n≠0:=λe=>h2 (Int.dvd_of_emod_eq_zero e);omega
theorem uu (x:Int):Ks 65536 x=IntKind.i16.wrap x:=by have h:=dC x 65536 (by omega);have hb:=Uh x 65536 (by omega);simp only [IntKind.wrap,IntKind.bits,IntKind.signed,Ks];simp;generalize x.tmod 65536=r at*;omega
theorem sL (x:Int):Ks 4294967296 x=IntKind.i32.wrap x:=by have h:=dC x 4294967296 (by omega);have hb:=Uh x 4294967296 (by omega);simp only [IntKind.wrap,IntKind.bits,IntKind.signed,Ks];simp;generalize x.tmod 4294967296=r at*;omega
def yM (x:Int):AJ 130 [.int .i64 1,.int .i64 x] (.int .i64 (F_ 1 x)):=by refine Fb (args':=[.int .i64 1,.sym 64]) (ls:=[.int .i64 x]) (c:=vP) (n:=300) (t:=fY) mo ov rfl rfl rfl rfl (λY _=>rfl) (λY _=>Cn _) rfl (by kernel_rfl) λY hf hg=>?_;unfold fY;refine Aa (Al ..) rfl (Aq (CT _) rfl rfl (Ap ?_));by_cases hi:x=0<;>simp [hi,F_,tI]<;>rfl
def yL (x:Int):AJ 130 [.int .i64 4,.int .i64 x] (.int .i64 x):=by refine Fb (args':=[.int .i64 4,.sym 64]) (ls:=[.int .i64 x]) (c:=yY) (n:=300) (t:=iS) mo ov rfl rfl rfl rfl (λY _=>rfl) (λY _=>Cn _) rfl (by kernel_rfl) λY hf hg=>?_;unfold iS;exact Ap rfl
def xY (x:Int):AJ 130 [.int .i64 5,.int .i64 x] (.int .i64 0):=by refine Fb (args':=[.int .i64 5,.sym 64]) (ls:=[.int .i64 x]) (c:=yX) (n:=300) (t:=cI) mo ov rfl rfl rfl rfl (λY _=>rfl) (λY _=>Cn _) rfl (by kernel_rfl) λY hf hg=>?_;unfold cI;exact Ap rfl
def FM_ (x:Int):AJ 130 [.int .i64 2,.int .i64 x] (.int .i64 (Ks 65536 x)):=by
 have hb:=Uh x 65536 (by omega);refine Fb (args':=[.int .i64 2,.sym 64]) (ls:=[.int .i64 x]) (c:=sX) (n:=300) (t:=oO) mo ov rfl rfl rfl rfl (λY _=>rfl) (λY _=>Cn _) rfl (by kernel_rfl) λY hf hg=>?_;unfold oO;have hr:=S7 (P:=Tryz.prog) (k:=.i64) (x:=x) (c:=65536) (by omega) 2 false false;unfold Ks;generalize x.tmod 65536=r at*;refine Aa hr rfl ?_;repeat' (first
  |refine Aa (AX ..) rfl ?_
  |refine Aa (A8 ..) rfl ?_
  |refine Aa (AM ..) rfl ?_
  |refine Aa (Bn ..) rfl ?_
  |refine Ax rfl (λh=>?_) (λh=>?_)
  |refine Ap ?_)
 all_goals (simp only [AH,AY]at *)
 all_goals (try rw [CS (x:=r+65536) (by omega) (by omega)]at *)
 all_goals
  (show AV.int .i64 _=AV.int .i64 _
   congr 1
   repeat' split
   all_goals first
    |(exfalso;omega)
    |rfl
    |(rw [CS (x:=r+65536-65536) (by omega) (by omega)])
    |(rw [CS (x:=r-65536) (by omega) (by omega)])
    |omega)
def ut (x:Int):AJ 130 [.int .i64 3,.int .i64 x] (.int .i64 (Ks 4294967296 x)):=by
 have hb:=Uh x 4294967296 (by omega);refine Fb (args':=[.int .i64 3,.sym 64]) (ls:=[.int .i64 x]) (c:=w0) (n:=300) (t:=jl) mo ov rfl rfl rfl rfl (λY _=>rfl) (λY _=>Cn _) rfl (by kernel_rfl) λY hf hg=>?_;unfold jl;have hr:=S7 (P:=Tryz.prog) (k:=.i64) (x:=x) (c:=4294967296) (by omega) 2 false false;unfold Ks;generalize x.tmod 4294967296=r at*;refine Aa hr rfl ?_;repeat' (first
  |refine Aa (AX ..) rfl ?_
  |refine Aa (A8 ..) rfl ?_
  |refine Aa (AM ..) rfl ?_
  |refine Aa (Bn ..) rfl ?_
  |refine Ax rfl (λh=>?_) (λh=>?_)
  |refine Ap ?_)
 all_goals (simp only [AH,AY]at *)
 all_goals (try rw [CS (x:=r+4294967296) (by omega) (by omega)]at *)
 all_goals
  (show AV.int .i64 _=AV.int .i64 _
   congr 1
   repeat' split
   all_goals first
    |(exfalso;omega)
    |rfl
    |(rw [CS (x:=r+4294967296-4294967296) (by omega) (by omega)])
    |(rw [CS (x:=r-4294967296) (by omega) (by omega)])
    |omega)
def LW {k:Int} (h:1<=k/\k<=5) (x:Int):AJ 130 [.int .i64 k,.int .i64 x] (.int .i64 (F_ k x)):=by rcases (by omega:k=1\/k=2\/k=3\/k=4\/k=5)with rfl|rfl|rfl|rfl|rfl;exact yM x;have:=FM_ x;rw [uu]at this;exact this;have:=ut x;rw [sL]at this;exact this;exact yL x;exact xY x
def qw (op k a b:Int) (ho:Do op k) (hk:k≠5) (ha:DY k a):AJ 133 [.int .i64 op,.int .i64 k,.int .i64 a,.int .i64 b] (.tup [.int .i64 (E_ op k a b),.int .i64 (CU op b)]):=by
 obtain ⟨h1,h2,h3,h4,h5,h6,h7⟩:=ho;have hkk:1<=k/\k<=5:=⟨h3,h4⟩;refine Bx [none,none,none,none] [.int .i64 op,.int .i64 k,.int .i64 a,.int .i64 b] yj lZ rfl rfl rfl rfl rfl (by kernel_rfl) λY hf hg=>?_;unfold lZ;have fin0:∀{v:Int},(op≠7/\op≠8)->Dk op k a b=v->AV.tup [.int .i64 v,.int .i64 0]=.tup [.int .i64 (E_ op k a b),.int .i64 (CU op b)]:=λh e=>by rw [E_,Ad (Ez h),Ez h,e]
 have fin1:∀{v:Int},b≠0->Dk op k a b=v->AV.tup [.int .i64 v,.int .i64 0]=.tup [.int .i64 (E_ op k a b),.int .i64 (CU op b)]:=λh e=>by have h0:CU op b=0:=(by unfold CU;rw [Ab (λhh=>h hh.2)]);rw [E_,Ad h0,h0,e]
 have fin5:(op=7\/op=8)->b=0->AV.tup [.int .i64 0,.int .i64 5]=.tup [.int .i64 (E_ op k a b),.int .i64 (CU op b)]:=λh e=>by have h0:CU op b=5:=(by unfold CU;rw [Ad ⟨h,e⟩]);rw [E_,h0,Ab (by omega)]
 have h8:k≠1->op=8->Dk op k a b=a.tmod b:=λhk1 e=>by have:=eC (b:=b) ha hk hk1;rw [Np (by omega),e];show F_ k (a.tmod b)=_;rw [LU this hk]
 have h7':k≠1->op=7->b≠ -1->Dk op k a b=FX (a.tdiv b):=λhk1 e hb=>by have h:=pD (b:=b) ha hk hk1 hb;have e64:FX (a.tdiv b)=a.tdiv b:=CS h.i64.1 h.i64.2;rw [Np (by omega),e];show F_ k (FX (a.tdiv b))=_;rw [e64,LU h hk]
 (refine b_ rfl rfl ?_ ?_<;>intro h<;>try omega)
 ·(refine b_ rfl rfl ?_ ?_<;>intro h<;>try omega)
  .have e:Dk op k a b=tI (decide (¬a=0)&&decide (¬b=0)):=by subst op;rfl
   (refine b_ rfl rfl ?_ ?_<;>intro h<;>try omega)
   .refine Aa (Al ..) rfl (Aq (CT _) rfl rfl (Ap (fin0 (by omega) ?_)));rw [e,AD (by omega),Bool.true_and];by_cases hb:b=0<;>simp [hb]
   refine Aq (CT false) rfl rfl (Ap (fin0 (by omega) ?_));rw [e,A4 (by omega),Bool.false_and]
  (refine b_ rfl rfl ?_ ?_<;>intro h<;>try omega)
  .have e:Dk op k a b=tI (decide (¬a=0)||decide (¬b=0)):=by subst op;rfl
   (refine b_ rfl rfl ?_ ?_<;>intro h<;>try omega)
   refine Aq (CT true) rfl rfl (Ap (fin0 (by omega) ?_));rw [e,AD (by omega),Bool.true_or]
   .refine Aa (Al ..) rfl (Aq (CT _) rfl rfl (Ap (fin0 (by omega) ?_)));rw [e,A4 (p:=¬a=0) (by omega),Bool.false_or];by_cases hb:b=0<;>simp [hb]
  (refine b_ rfl rfl ?_ ?_<;>intro h<;>try omega)
  have e:Dk op k a b=tI (decide (a=0)):=(by subst op;rfl);exact Aa (Am ..) rfl (Aq (CT _) rfl rfl (Ap (fin0 (by omega) e)))
  (refine b_ rfl rfl ?_ ?_<;>intro h<;>try omega)
  have e:Dk op k a b=tI (decide (a=b)):=(by subst op;rfl);exact Aa (Am ..) rfl (Aq (CT _) rfl rfl (Ap (fin0 (by omega) e)))
  (refine b_ rfl rfl ?_ ?_<;>intro h<;>try omega)
  have e:Dk op k a b=tI (decide (¬a=b)):=(by subst op;rfl);refine Aa (Al ..) rfl (Aq (CT _) rfl rfl (Ap (fin0 (by omega) ?_)));rw [e];by_cases hb:a=b<;>simp [hb]
 have hk1:k≠1:=h;have hb:Ry k≠0:=by unfold Ry;split<;>(try split)<;>(try split)<;>omega
 refine Aq (uU k) rfl rfl ?_
 (refine b_ rfl rfl ?_ ?_<;>intro h<;>try omega)
 (refine b_ rfl rfl ?_ ?_<;>intro h<;>try omega)
 exact Aa (AM ..) rfl (Aq (LW hkk _) rfl rfl (Ap (fin0 (by omega) (by subst op;rfl))))
 (refine b_ rfl rfl ?_ ?_<;>intro h<;>try omega)
 exact Aa (Bn ..) rfl (Aq (LW hkk _) rfl rfl (Ap (fin0 (by omega) (by subst op;rfl))))
 (refine b_ rfl rfl ?_ ?_<;>intro h<;>try omega)
 exact Aa (F2 ..) rfl (Aq (LW hkk _) rfl rfl (Ap (fin0 (by omega) (by subst op;rfl))))
 (refine b_ rfl rfl ?_ ?_<;>intro h<;>try omega)
 exact Aa (Xn ..) rfl (Aq (LW hkk _) rfl rfl (Ap (fin0 (by omega) (by subst op;rfl))))
 (refine b_ rfl rfl ?_ ?_<;>intro h<;>try omega)
 .have h7'':=h
  (refine b_ rfl rfl ?_ ?_<;>intro h<;>try omega)
  exact Ap (fin5 (by omega) h);have hb0:=h
  (refine b_ rfl rfl ?_ ?_<;>intro h<;>try omega)
  .have hbm:=h
   (refine b_ rfl rfl ?_ ?_<;>intro h<;>try omega)
   refine Aa (Xn ..) rfl (Aq (LW hkk _) rfl rfl (Ap (fin1 hb0 ?_)));rw [Np (by omega),h7'',hbm];show F_ k (FX (a.tdiv (-1)))=F_ k (IntKind.i64.wrap (0-a));rw [zQ,Int.zero_sub];rfl
  have hbm:=h
  (refine b_ rfl rfl ?_ ?_<;>intro h<;>try omega)
  exact Aa (dj hb0 ..) rfl (Ap (fin1 hb0 (h7' hk1 h7'' hbm)))
 (refine b_ rfl rfl ?_ ?_<;>intro h<;>try omega)
 .have h8':=h
  (refine b_ rfl rfl ?_ ?_<;>intro h<;>try omega)
  exact Ap (fin5 (by omega) h);have hb0:=h
  (refine b_ rfl rfl ?_ ?_<;>intro h<;>try omega)
  .have hbm:=h
   (refine b_ rfl rfl ?_ ?_<;>intro h<;>try omega)
   refine Ap (fin1 hb0 ?_);rw [h8 hk1 h8',hbm,CY_]
  have hbm:=h
  (refine b_ rfl rfl ?_ ?_<;>intro h<;>try omega)
  exact Aa (S7 hb0 ..) rfl (Ap (fin1 hb0 (h8 hk1 h8')))
 (refine b_ rfl rfl ?_ ?_<;>intro h<;>try omega)
 have e:Dk op k a b=tI (decide (a=b)):=(by subst op;rfl);exact Aa (Am ..) rfl (Aq (CT _) rfl rfl (Ap (fin0 (by omega) e)))
 (refine b_ rfl rfl ?_ ?_<;>intro h<;>try omega)
 .have e:Dk op k a b=tI (decide (¬a=b)):=(by subst op;rfl);refine Aa (Al ..) rfl (Aq (CT _) rfl rfl (Ap (fin0 (by omega) ?_)));rw [e];by_cases hb:a=b<;>simp [hb]
 (refine b_ rfl rfl ?_ ?_<;>intro h<;>try omega)
 have e:Dk op k a b=tI (decide (a<b)):=(by subst op;rfl);exact Aa (AX ..) rfl (Aq (CT _) rfl rfl (Ap (fin0 (by omega) e)))
 (refine b_ rfl rfl ?_ ?_<;>intro h<;>try omega)
 have e:Dk op k a b=tI (decide (a<=b)):=by subst op;rfl
 exact Aa (Bq ..) rfl (Aq (CT _) rfl rfl (Ap (fin0 (by omega) e)))
end Go.Proofs.YtelnbodnjmldeaaGreat.vars
set_option maxRecDepth 100000
namespace Go.Proofs.YtelnbodnjmldeaaGreat.vars
open Go.Sx Go
def iD (s:Bool) (t:Nat):((FloatKind.f64.format).read (FloatKind.f64.encode (.nan s (FloatKind.f64.format.quiet t)))).isNaN=true:=by
 refine VR ?_ (by decide +kernel);have h51:(Ieee.Format.quiet Ieee.double t%Ieee.double.binade).testBit 51=true:=by have hb:Ieee.double.binade=2^52:=(by decide +kernel);rw [hb,Nat.testBit_mod_two_pow];show (decide (51<52)&&(t|||2^(Ieee.double.fractionBits-1)).testBit 51)=true;have hf:Ieee.double.fractionBits-1=51:=(by decide +kernel);rw [hf,Nat.testBit_or,Nat.testBit_two_pow_self];simp
 have hpos:0<Ieee.Format.quiet Ieee.double t%Ieee.double.binade:=by rcases Nat.eq_zero_or_pos (Ieee.Format.quiet Ieee.double t%Ieee.double.binade)with h|h;rw [h]at h51;simp at h51;exact h
 have hlt:Ieee.Format.quiet Ieee.double t%Ieee.double.binade<Ieee.double.binade:=Nat.mod_lt _ (by decide +kernel);show Ieee.double.infRung<(Ieee.double.word s (Ieee.double.infRung+Ieee.Format.quiet Ieee.double t%Ieee.double.binade))%Ieee.double.signWeight;generalize Ieee.Format.quiet Ieee.double t%Ieee.double.binade=q at*;have e1:Ieee.double.infRung=9218868437227405312:=by decide +kernel
 have e2:Ieee.double.signWeight=9223372036854775808:=by decide +kernel
 have e3:Ieee.double.binade=4503599627370496:=by decide +kernel
 unfold Ieee.Format.word;rw [e1,e2];rw [e3]at hlt;cases s<;>simp<;>omega
def B2_ (b:Nat):∃q:Question,Extern.MathFloor.toIntegral "math.archTrunc" .zero #[.float .f64 b]=(match FloatKind.f64.format.read b with
 | .nan s t=>if FloatKind.f64.format.quiet t=t then pure (.float .f64 b)else do
    let kept←choose q
    pure (.float .f64 (if kept==1 then b else FloatKind.f64.encode (.nan s (FloatKind.f64.format.quiet t))))
 |d=>pure (.float .f64 (FloatKind.f64.encode (d.integral .zero)))):=⟨_,rfl⟩
def cZ (b b':Nat):Prop:=(Cp b=true->((FloatKind.f64.format).read b').isNaN=true)/\(Cp b=false->b'=G7 b)
def tj {P:Program} (b:Nat) (w:World):
  ∃b' n,(Extern.MathFloor.toIntegral "math.archTrunc" .zero #[.float .f64 b]).run P w=.ok (.float .f64 b') { w with drawn:=n }/\cZ b b':=by
 obtain ⟨q,e⟩:=B2_ b;rw [e];have hn:(FloatKind.f64.format.read b).isNaN=Cp b:=lB;cases hd:FloatKind.f64.format.read b with
 |number s m i=>rw [hd]at hn;refine ⟨G7 b,w.drawn,?_,λh=>(zb' (hn.trans h)).elim,λ_=>rfl⟩;unfold G7;rw [show Ieee.double.read b=_ from hd];rfl
 |infinity s=>rw [hd]at hn;refine ⟨G7 b,w.drawn,?_,λh=>(zb' (hn.trans h)).elim,λ_=>rfl⟩;unfold G7;rw [show Ieee.double.read b=_ from hd];rfl
 |nan s t=>rw [hd]at hn;have hf:Cp b≠false:=λh=>(by rw [←hn]at h;cases h);simp only;split;exact ⟨b,w.drawn,rfl,λ_=>by rw [hd];rfl,λh=>absurd h hf⟩;simp only [Sem.run_bind,choose,Sem.run,Result.andThen];by_cases hq:q.forced=true;rw [Ad hq];exact ⟨_,w.drawn,rfl,λ_=>iD s t,λh=>absurd h hf⟩;rw [Ab hq];refine ⟨_,_,rfl,λ_=>?_,λh=>absurd h hf⟩;split;rw [hd];rfl;exact iD s t
def zV_ (b:Nat) (w:World):
  Calls Tryz.prog 173 #[.float .f64 b] w λe w'=>∃b' n,e=.returned (.float .f64 b')/\w'={ w with drawn:=n }/\cZ b b':=by
 obtain ⟨b',n,h1,h2⟩:=tj (P:=Tryz.prog) b w;have h3:(callFunc 205 #[.float .f64 b]).run Tryz.prog w=.ok (.value (.float .f64 b')) { w with drawn:=n }:=by rw [run_callFunc_extern (P:=Tryz.prog) (f:=205) (e:=Extern.MathFloor.toIntegral "math.archTrunc" .zero) Tryz.func205 (by kernel_rfl) (by kernel_rfl) (by kernel_rfl) (by kernel_rfl),h1];rfl
 have H2:=Lib.hid h2;clear h2 h1;generalize hw1:({ w with drawn:=n }:World)=w1 at*;have H3:=Lib.hid hw1;clear hw1
 go_enter Tryz.func173,Tryz.ntmps173
 go_wp2
 go_ret
 exact ⟨b',n,rfl,H3.out.symm,H2.out⟩
def kM (o:Option Nat):AJ 173 [fv o] (fv (DX o)):=by
 intro H B pr E w vs hg hr hc;have key:∃b,vs=[.float .f64 b]/\(Cp b=DZ o)/\(DZ o=false->o=some b):=by
  cases o with
  |none=>simp only [fv,In,Ah,Ac]at hc;obtain ⟨v,r,rfl,⟨b,rfl,hb⟩,rfl⟩:=hc;exact ⟨b,rfl,by rw [←lB];exact hb,λh=>by cases h⟩
  |some b=>simp only [fv,In,Ah,Ac]at hc;obtain ⟨v,r,rfl,rfl,rfl⟩:=hc;exact ⟨b,rfl,rfl,λ_=>rfl⟩
 obtain ⟨b,rfl,hn,ho⟩:=key;refine (zV_ b w).mono λe w' he=>?_;obtain ⟨b',n,rfl,rfl,h1,h2⟩:=he;refine ⟨E,Ag.le_refl E,_,rfl,?_,hr.drawn n⟩;cases hb:DZ o with
 |true=>
  have e:DX o=none:=by
   cases o with
   |none=>rfl
   |some x=>show (if Cp x=true then none else some (G7 x))=none;exact Ad hb
  rw [e];simp only [fv,In,Ac];exact ⟨b',rfl,h1 (hn.trans hb)⟩
 |false=>
  rw [ho hb];have hb':Cp b=false:=hn.trans hb;have e:DX (some b)=some (G7 b):=by show (if Cp b=true then none else some (G7 b))=_;rw [Ab (by rw [hb'];exact Bool.false_ne_true)]
  rw [e,←h2 hb'];simp only [fv,In,Ac]
def rC:VC:=⟨⟨[],[]⟩,[],[],0,true,[]⟩
def hO:VT:=Iq 64 4 67 (Li Uw [65,66] 68<|.done (.tup [68,.bool false,.bool true]))<|Iq 64 5 68 (Li Ux [65,66] 69<|.done (.tup [69,.bool false,.bool true]))<|Iq 64 6 69 (Li Uy [65,66] 70<|.done (.tup [70,.bool false,.bool true]))<|Iq 64 7 70 (Li Uz [65,66] 71<|.done (.tup [71,.bool false,.bool true]))<|Iq 64 16 71 (Li Zb [65] 72<|.done (.tup [72,.bool false,.bool true]))<|Iq 64 9 72 (Li G0 [65,66] 73<|.done (.tup [.flt .f64 0,73,.bool true]))<|Iq 64 10 73 (Li Zf [65,66] 74<|.done (.tup [.flt .f64 0,74,.bool true]))<|Iq 64 11 74 (Li Uc [65,66] 75<|.done (.tup [.flt .f64 0,75,.bool true]))<|Iq 64 12 75 (Li G1 [65,66] 76<|.done (.tup [.flt .f64 0,76,.bool true]))<|.done (.tup [.flt .f64 0,.bool false,.bool false])
def zX:VC:=⟨⟨[],[]⟩,[],[],0,true,[]⟩
def dV:VT:=Iq 64 4 67 (Li Uw [65,66] 68<|.done (.tup [68,.bool false,.bool true]))<|Iq 64 5 68 (Li Ux [65,66] 69<|.done (.tup [69,.bool false,.bool true]))<|Iq 64 6 69 (Li Uy [65,66] 70<|.done (.tup [70,.bool false,.bool true]))<|Iq 64 7 70 (Li Uz [65,66] 71<|.done (.tup [71,.bool false,.bool true]))<|Iq 64 16 71 (Li Zb [65] 72<|.done (.tup [72,.bool false,.bool true]))<|Iq 64 9 72 (Li G0 [65,66] 73<|.done (.tup [.flt .f64 0,73,.bool true]))<|Iq 64 10 73 (Li Zf [65,66] 74<|.done (.tup [.flt .f64 0,74,.bool true]))<|Iq 64 11 74 (Li Uc [65,66] 75<|.done (.tup [.flt .f64 0,75,.bool true]))<|Iq 64 12 75 (Li G1 [65,66] 76<|.done (.tup [.flt .f64 0,76,.bool true]))<|.done (.tup [.flt .f64 0,.bool false,.bool false])
def vz:VC:=⟨⟨[],[]⟩,[],[],0,true,[]⟩
def cJ:VT:=.ite 64 (.done (.agg [J 1,J 1,.flt .f64 0]))<|.done (.agg [J 1,J 0,.flt .f64 0])
def uQ:VC:=⟨⟨[],[]⟩,[],[],0,true,[]⟩
def jR:VT:=Iq 64 2 65 (.done (.tup [.flt .f64 13898108450065350656,.bool true]))<|Iq 64 3 66 (.done (.tup [.flt .f64 13970166044103278592,.bool true]))<|Iq 64 4 67 (.done (.tup [.flt .f64 14114281232179134464,.bool true]))<|.done (.tup [.flt .f64 0,.bool false])
def qz:VC:=⟨⟨[],[]⟩,[(198,[none,none]),(173,[none])],[],0,true,[]⟩
def oQ:VT:=.call 198 [64] 66 [none,none]<|It Q6 [67] 68 (Dn [J 4])<|.call 173 [65] 69 [none]<|It (.bin .geq 60 false false) [69,66] 70 (Li Zb [66] 71<|It Uc [69,71] 72 (Li (.conv 60 2) [69] 73<|.done (.tup [73,J 0]))<|Dn [J 7])<|Dn [J 7]
def XV:VC:=⟨⟨[],[]⟩,[(173,[none])],[],0,true,[]⟩
def Pr (lo hi:Nat):VT:=
 (.call 173 [.sym 64] 65 [none]
 (.lt Zf [.sym 64,.sym 64] 66 none
 (.ite 66
  (.done (.tup [.int .i64 0,.int .i64 7]))
  (.lt (.bin .lss 60 false false) [.sym 65,.flt .f64 lo] 67 none
  (.ite 67
   (.done (.tup [.int .i64 0,.int .i64 7]))
   (.lt (.bin .geq 60 false false) [.sym 65,.flt .f64 hi] 68 none
   (.ite 68
    (.done (.tup [.int .i64 0,.int .i64 7]))
    (.lt (.conv 60 2) [.sym 65] 69 none
    (.done (.tup [.sym 69,.int .i64 0]))))))))))
def c85:VC:=⟨⟨[],[]⟩,[(130,[none]),(129,[none,none])],[],0,true,[]⟩
def fD:VT:=Iq 64 5 68 (Iq 65 5 69 (.done (.tup [.agg [65,66,67],J 0]))<|Iq 64 5 70 (Li Zz [66] 71<|.done (.tup [.agg [J 5,J 0,71],J 0]))<|Iq 65 5 71 (.call 129 [64,67] 72 [none,none]<|It Q7 [73,J 0] 74 (.done (.tup [.agg [J 0,J 0,.flt .f64 0],73]))<|.done (.tup [.agg [64,72,.flt .f64 0],J 0]))<|.call 130 [64,66] 72 [none]<|.done (.tup [.agg [64,72,.flt .f64 0],J 0]))<|Iq 64 5 69 (Li Zz [66] 70<|.done (.tup [.agg [J 5,J 0,70],J 0]))<|Iq 65 5 70 (.call 129 [64,67] 71 [none,none]<|It Q7 [72,J 0] 73 (.done (.tup [.agg [J 0,J 0,.flt .f64 0],72]))<|.done (.tup [.agg [64,71,.flt .f64 0],J 0]))<|.call 130 [64,66] 71 [none]<|.done (.tup [.agg [64,71,.flt .f64 0],J 0])
def wh:VC:=⟨⟨[],[]⟩,[(131,[none,none,none]),(133,[none,none]),(132,[(some 3)])],[],0,true,[]⟩
def ij:VT:=Iq 65 5 72 (.call 131 [64,68,71] 73 [none,none,none]<|It Q6 [75] 76 (.done (.tup [.agg [J 0,J 0,.flt .f64 0],J 4]))<|It Q4 [64,J 9] 77 (It Q8 [64,J 12] 78 (.call 132 [74] 79 [(some 3)]<|.done (.tup [.agg [79,80,81],J 0]))<|.done (.tup [.agg [J 5,J 0,73],J 0]))<|.done (.tup [.agg [J 5,J 0,73],J 0]))<|.call 133 [64,65,67,70] 73 [none,none]<|It Q7 [74,J 0] 75 (.done (.tup [.agg [J 0,J 0,.flt .f64 0],74]))<|It Q4 [64,J 9] 76 (It Q8 [64,J 12] 77 (.done (.tup [.agg [J 1,73,.flt .f64 0],J 0]))<|.done (.tup [.agg [65,73,.flt .f64 0],J 0]))<|.done (.tup [.agg [65,73,.flt .f64 0],J 0])
def Ri (a:Option Nat):(XOp.un .neg).run Tryz.prog [fv a]=some (fv (a.map (Op.negFloat .f64))):=by cases a<;>rfl
def Se (t:TypeId) (cx cy:Bool) (a b:Option Nat):(XOp.bin .add t cx cy).run Tryz.prog [fv a,fv b]=some (fv (Ex FloatKind.f64.format.add a b)):=by rw [JK];rfl
def Vo (t:TypeId) (cx cy:Bool) (a b:Option Nat):(XOp.bin .sub t cx cy).run Tryz.prog [fv a,fv b]=some (fv (Ex FloatKind.f64.format.sub a b)):=by rw [JK];rfl
def SE (t:TypeId) (cx cy:Bool) (a b:Option Nat):(XOp.bin .mul t cx cy).run Tryz.prog [fv a,fv b]=some (fv (Ex FloatKind.f64.format.mul a b)):=by rw [JK];rfl
def Sz (t:TypeId) (cx cy:Bool) (a b:Option Nat):(XOp.bin .quo t cx cy).run Tryz.prog [fv a,fv b]=some (fv (Ex FloatKind.f64.format.div a b)):=by rw [JK];rfl
def V4 (t:TypeId) (cx cy:Bool) (a b:Option Nat):(XOp.bin .eql t cx cy).run Tryz.prog [fv a,fv b]=some (.bool (BD a b==some .eq)):=by rw [JK];rfl
def OE (t:TypeId) (cx cy:Bool) (a b:Option Nat):(XOp.bin .neq t cx cy).run Tryz.prog [fv a,fv b]=some (.bool (BD a b !=some .eq)):=by rw [JK];rfl
def Of (t:TypeId) (cx cy:Bool) (a b:Option Nat):(XOp.bin .lss t cx cy).run Tryz.prog [fv a,fv b]=some (.bool (BD a b==some .lt)):=by rw [JK];rfl
def Th (t:TypeId) (cx cy:Bool) (a b:Option Nat):(XOp.bin .leq t cx cy).run Tryz.prog [fv a,fv b]=some (.bool (BD a b==some .lt||BD a b==some .eq)):=by rw [JK];rfl
def jG (t:TypeId) (cx cy:Bool) (a b:Option Nat):(XOp.bin .geq t cx cy).run Tryz.prog [fv a,fv b]=some (.bool (BD a b==some .gt||BD a b==some .eq)):=by rw [JK];rfl
def Lw (op:Int):Prop:=(4<=op/\op<=7)\/op=16\/(9<=op/\op<=12)
def Mk (op:Int) (a b:Option Nat):Option Nat:=
 if op=4 then Ex FloatKind.f64.format.add a b else if op=5 then Ex FloatKind.f64.format.sub a b else if op=6 then Ex FloatKind.f64.format.mul a b else if op=7 then Ex FloatKind.f64.format.div a b
 else if op=16 then a.map (Op.negFloat .f64)else some 0
def PV (op:Int) (a b:Option Nat):Bool:=if 9<=op/\op<=12 then iC op (BD a b)else false
def bd {op:Int} {a b:Option Nat} (h:Lw op):Kj op a b=if 9<=op/\op<=12 then ⟨1,tI (PV op a b),some 0⟩else ⟨5,0,Mk op a b⟩:=by rcases (by unfold Lw at h;omega:op=4\/op=5\/op=6\/op=7\/op=16\/op=9\/op=10\/op=11\/op=12)with rfl|rfl|rfl|rfl|rfl|rfl|rfl|rfl|rfl<;>rfl
def iN (f:Option Nat) (b c:Bool):BS (.tup [fv f,.bool b,.bool c])=true:=by cases f<;>rfl
def ze (k:Int) (f:Option Nat):Ak [.int .i64 k,fv f]=true:=by cases f<;>rfl
def mn (op:Int) (a b:Option Nat):Ak [.int .i64 op,fv a,fv b]=true:=by cases a<;>cases b<;>rfl
def TL (op:Int) (a b:Option Nat) (h:Lw op):AJ 166 [.int .i64 op,fv a,fv b] (.tup [fv (Mk op a b),.bool (PV op a b),.bool true]):=by
 unfold Lw at h;refine Bx [none,none,none] [.int .i64 op,fv a,fv b] rC hO rfl (mn ..) (iN ..) rfl rfl (by kernel_rfl) λY hf hg=>?_;unfold hO
 (refine b_ rfl rfl ?_ ?_<;>intro h<;>try omega)
 .subst op;(first
             |exact Aa (Se ..) (CY _) (Ap (by rfl))
             |exact Aa (Se ..) rfl (Ap (by rfl)))
 (refine b_ rfl rfl ?_ ?_<;>intro h<;>try omega)
 .subst op;(first
             |exact Aa (Vo ..) (CY _) (Ap (by rfl))
             |exact Aa (Vo ..) rfl (Ap (by rfl)))
 (refine b_ rfl rfl ?_ ?_<;>intro h<;>try omega)
 .subst op;(first
             |exact Aa (SE ..) (CY _) (Ap (by rfl))
             |exact Aa (SE ..) rfl (Ap (by rfl)))
 (refine b_ rfl rfl ?_ ?_<;>intro h<;>try omega)
 .subst op;(first
             |exact Aa (Sz ..) (CY _) (Ap (by rfl))
             |exact Aa (Sz ..) rfl (Ap (by rfl)))
 (refine b_ rfl rfl ?_ ?_<;>intro h<;>try omega)
 .subst op;(first
             |exact Aa (Ri ..) (CY _) (Ap (by rfl))
             |exact Aa (Ri ..) rfl (Ap (by rfl)))
 (refine b_ rfl rfl ?_ ?_<;>intro h<;>try omega)
 .subst op;(first
             |exact Aa (V4 ..) (CY _) (Ap (by rfl))
             |exact Aa (V4 ..) rfl (Ap (by rfl)))
 (refine b_ rfl rfl ?_ ?_<;>intro h<;>try omega)
 .subst op;(first
             |exact Aa (OE ..) (CY _) (Ap (by rfl))
             |exact Aa (OE ..) rfl (Ap (by rfl)))
 (refine b_ rfl rfl ?_ ?_<;>intro h<;>try omega)
 .subst op;(first
             |exact Aa (Of ..) (CY _) (Ap (by rfl))
             |exact Aa (Of ..) rfl (Ap (by rfl)))
 (refine b_ rfl rfl ?_ ?_<;>intro h<;>try omega)
 subst op;(first
            |exact Aa (Th ..) (CY _) (Ap (by rfl))
            |exact Aa (Th ..) rfl (Ap (by rfl)))
def rp (op:Int) (a b:Option Nat) (h:Lw op):AJ 131 [.int .i64 op,fv a,fv b] (.tup [fv (Mk op a b),.bool (PV op a b),.bool true]):=by
 unfold Lw at h;refine Bx [none,none,none] [.int .i64 op,fv a,fv b] zX dV rfl (mn ..) (iN ..) rfl rfl (by kernel_rfl) λY hf hg=>?_;unfold dV
 (refine b_ rfl rfl ?_ ?_<;>intro h<;>try omega)
 .subst op;(first
             |exact Aa (Se ..) (CY _) (Ap (by rfl))
             |exact Aa (Se ..) rfl (Ap (by rfl)))
 (refine b_ rfl rfl ?_ ?_<;>intro h<;>try omega)
 .subst op;(first
             |exact Aa (Vo ..) (CY _) (Ap (by rfl))
             |exact Aa (Vo ..) rfl (Ap (by rfl)))
 (refine b_ rfl rfl ?_ ?_<;>intro h<;>try omega)
 .subst op;(first
             |exact Aa (SE ..) (CY _) (Ap (by rfl))
             |exact Aa (SE ..) rfl (Ap (by rfl)))
 (refine b_ rfl rfl ?_ ?_<;>intro h<;>try omega)
 .subst op;(first
             |exact Aa (Sz ..) (CY _) (Ap (by rfl))
             |exact Aa (Sz ..) rfl (Ap (by rfl)))
 (refine b_ rfl rfl ?_ ?_<;>intro h<;>try omega)
 .subst op;(first
             |exact Aa (Ri ..) (CY _) (Ap (by rfl))
             |exact Aa (Ri ..) rfl (Ap (by rfl)))
 (refine b_ rfl rfl ?_ ?_<;>intro h<;>try omega)
 .subst op;(first
             |exact Aa (V4 ..) (CY _) (Ap (by rfl))
             |exact Aa (V4 ..) rfl (Ap (by rfl)))
 (refine b_ rfl rfl ?_ ?_<;>intro h<;>try omega)
 .subst op;(first
             |exact Aa (OE ..) (CY _) (Ap (by rfl))
             |exact Aa (OE ..) rfl (Ap (by rfl)))
 (refine b_ rfl rfl ?_ ?_<;>intro h<;>try omega)
 .subst op;(first
             |exact Aa (Of ..) (CY _) (Ap (by rfl))
             |exact Aa (Of ..) rfl (Ap (by rfl)))
 (refine b_ rfl rfl ?_ ?_<;>intro h<;>try omega)
 subst op;(first
            |exact Aa (Th ..) (CY _) (Ap (by rfl))
            |exact Aa (Th ..) rfl (Ap (by rfl)))
def v9 (b:Bool):AJ 132 [.bool b] (.agg (f_ ⟨1,tI b,some 0⟩)):=by refine Bx [none] [.bool b] vz cJ rfl rfl rfl rfl rfl (by kernel_rfl) λY hf hg=>?_;unfold cJ;cases b;exact Ax (t:=false) rfl (λh=>by cases h) (λh=>Ap rfl);exact Ax (t:=true) rfl (λh=>Ap rfl) (λh=>by cases h)
def vB {k:Int} (h:2<=k/\k<=4):AJ 198 [.int .i64 k] (.tup [fv (some (Fh k)),.bool true]):=by
 refine Bx [none] [.int .i64 k] uQ jR rfl rfl rfl rfl rfl (by kernel_rfl) λY hf hg=>?_;unfold jR
 (refine b_ rfl rfl ?_ ?_<;>intro h<;>try omega)
 subst k;exact Ap rfl
 (refine b_ rfl rfl ?_ ?_<;>intro h<;>try omega)
 subst k;exact Ap rfl
 (refine b_ rfl rfl ?_ ?_<;>intro h<;>try omega)
 subst k;exact Ap rfl
def nY {k:Int} (h:2<=k/\k<=4):Op.negFloat .f64 (Fh k)=Gp k:=by rcases (by omega:k=2\/k=3\/k=4)with rfl|rfl|rfl<;>kernel_rfl
def GU (k:Int) (f:Option Nat):Int:=(M_ k f).getD 0
def Z_ (k:Int) (f:Option Nat):Int:=if (M_ k f).isSome then 0 else 7
def dq {k:Int} {f:Option Nat} {n:Int} (h:2<=k/\k<=4) (hn:M_ k f=some n):(XOp.conv 60 2).run Tryz.prog [fv (DX f)]=some (.int .i64 n):=by
 have hi:=(eo h hn).i64;unfold M_ at hn;split at hn;· cases hn
 split at hn;· cases hn
 split at hn;exact up_ Tryz.underlying60 Tryz.underlying2 hn hi.1 hi.2;cases hn
def gj {k:Int} {f:Option Nat} (h:2<=k/\k<=4) (h0:DZ f=false) (h1:BD (DX f) (some (Fh k))≠some .lt) (h2:BD (DX f) (some (Gp k))=some .lt):∃n,M_ k f=some n:=by unfold M_;rw [h0,Ab (by decide),Ab h1,Ad h2];rcases (by omega:k=2\/k=3\/k=4)with rfl|rfl|rfl;obtain ⟨m,e,a,b⟩:=Oj (k:=15) (j:= -37) rfl (by kernel_rfl) (by kernel_rfl) h1 h2;exact ⟨m,e⟩;obtain ⟨m,e,a,b⟩:=Oj (k:=31) (j:= -21) rfl (by kernel_rfl) (by kernel_rfl) h1 h2;exact ⟨m,e⟩;obtain ⟨m,e,a,b⟩:=Oj (k:=63) (j:=11) rfl (by kernel_rfl) (by kernel_rfl) h1 h2;exact ⟨m,e⟩
def jO {k:Int} (h:2<=k/\k<=4):DZ (some (Fh k))=false/\DZ (some (Gp k))=false:=by rcases (by omega:k=2\/k=3\/k=4)with rfl|rfl|rfl<;>exact ⟨by kernel_rfl,by kernel_rfl⟩
def dW {k:Int} {f:Option Nat} {n:Int} (h:M_ k f=some n):AV.tup [.int .i64 n,.int .i64 0]=.tup [.int .i64 (GU k f),.int .i64 (Z_ k f)]:=by unfold GU Z_;rw [h];rfl
def QQ {k:Int} {f:Option Nat} (h:M_ k f=none):AV.tup [.int .i64 0,.int .i64 7]=.tup [.int .i64 (GU k f),.int .i64 (Z_ k f)]:=by unfold GU Z_;rw [h];rfl
def fI {k:Int} (h:2<=k/\k<=4) {f:Option Nat} (hn:DZ f=false):(BD (DX f) (some (Fh k))==some .gt||BD (DX f) (some (Fh k))==some .eq)= !(BD (DX f) (some (Fh k))==some .lt):=by obtain ⟨o,e⟩:=kL (a:=DX f) (b:=some (Fh k)) (by rw [Ww];exact hn) (jO h).1;rw [e];cases o<;>rfl
def gf {k:Int} (h:2<=k/\k<=4) {f:Option Nat} (hn:DZ f=false):(BD (DX f) (some (Gp k))==some .gt||BD (DX f) (some (Gp k))==some .eq)= !(BD (DX f) (some (Gp k))==some .lt):=by obtain ⟨o,e⟩:=kL (a:=DX f) (b:=some (Gp k)) (by rw [Ww];exact hn) (jO h).2;rw [e];cases o<;>rfl
def w7 {k:Int} (h:2<=k/\k<=4) (f:Option Nat):AJ 164 [.int .i64 k,fv f] (.tup [.int .i64 (GU k f),.int .i64 (Z_ k f)]):=by
 refine Bx [none,none] [.int .i64 k,fv f] qz oQ rfl (ze ..) rfl rfl rfl (by kernel_rfl) λY hf hg=>?_;unfold oQ;refine Aq (vB h) rfl rfl (Aa rfl rfl (Ax (t:=false) rfl (λh=>by cases h) (λ_=>?_)));refine Aq (kM f) rfl (by simp only [Ak,CY]) (Aa (jG ..) rfl (Ax rfl (λh1=>?_) (λh1=>?_)))
 .refine Aa (Ri ..) (CY _) (Aa (Of ..) rfl (Ax rfl (λh2=>?_) (λh2=>?_)))
  .have h2:(BD (DX f) (some (Op.negFloat .f64 (Fh k)))==some .lt)=true:=h2;rw [nY h]at h2;have hn:DZ f=false:=by
    cases hc:DZ f with
    |false=>rfl
    |true=>rw [yW (by rw [Ww];exact hc)]at h2;cases h2
   rw [fI h hn]at h1;obtain ⟨n,hw⟩:=gj h hn (λe=>by rw [e]at h1;cases h1) (by simpa using h2);exact Aa (dq h hw) rfl (Ap (dW hw))
  .have h2:(BD (DX f) (some (Op.negFloat .f64 (Fh k)))==some .lt)=false:=h2;rw [nY h]at h2;refine Ap (QQ ?_);unfold M_;split;· rfl
   split;· rfl
   split;rename_i e;rw [e]at h2;cases h2;rfl
 .refine Ap (QQ ?_);unfold M_;split;· rfl
  rename_i hn;have hn:DZ f=false:=(by simpa using hn);rw [fI h hn]at h1;rw [Ad (by simpa using h1)]
def QK (f:Option Nat):Ak [fv f]=true:=by cases f<;>rfl
def X5 (k:Int) (f:Option Nat):Gn [.int .i64 k,fv f]=true:=by cases f<;>rfl
theorem TN (f:Option Nat):(BD f f !=some .eq)=DZ f:=by show (!(BD f f==some .eq))=_;rw [xQ,Bool.not_not]
def Wz {k:Int} (h:2<=k/\k<=4) (f:Option Nat) {Y:Sy} {L:List (Nat->List AV->Prop)}:AC Tryz.prog (· =.tup [.int .i64 (GU k f),.int .i64 (Z_ k f)]) L (Y.puts 64 [fv f]) (Pr (Fh k) (Gp k)):=by unfold Pr;refine Aq (kM f) rfl (QK _) (Aa (OE ..) rfl (Ax rfl (λh1=>?_) (λh1=>?_)));rw [TN]at h1;refine Ap (QQ ?_);unfold M_;rw [Ad h1];rw [TN]at h1;refine Aa (Of _ _ _ (DX f) (some (Fh k))) rfl (Ax rfl (λh2=>?_) (λh2=>?_));refine Ap (QQ ?_);unfold M_;rw [h1,Ab (by decide),Ad (by simpa using h2)];refine Aa (jG _ _ _ (DX f) (some (Gp k))) rfl (Ax rfl (λh3=>?_) (λh3=>?_));refine Ap (QQ ?_);rw [gf h h1]at h3;unfold M_;rw [h1,Ab (by decide),Ab (by simpa using h2),Ab (by simpa using h3)];rw [gf h h1]at h3;obtain ⟨n,hw⟩:=gj h h1 (by simpa using h2) (by simpa using h3);exact Aa (dq h hw) rfl (Ap (dW hw))
def xx {k:Int} (h:2<=k/\k<=4) (f:Option Nat):AJ 129 [.int .i64 k,fv f] (.tup [.int .i64 (GU k f),.int .i64 (Z_ k f)]):=by rcases (by omega:k=2\/k=3\/k=4)with rfl|rfl|rfl;exact Fb (args':=[.int .i64 2,.sym 64]) (ls:=[fv f]) (c:=XV) (n:=300) (t:=Pr (Fh 2) (Gp 2)) mo ov (X5 ..) rfl (QK ..) rfl (λY _=>rfl) (λY _=>Cn _) rfl (by kernel_rfl) λY hf hg=>Wz h f;exact Fb (args':=[.int .i64 3,.sym 64]) (ls:=[fv f]) (c:=XV) (n:=300) (t:=Pr (Fh 3) (Gp 3)) mo ov (X5 ..) rfl (QK ..) rfl (λY _=>rfl) (λY _=>Cn _) rfl (by kernel_rfl) λY hf hg=>Wz h f;exact Fb (args':=[.int .i64 4,.sym 64]) (ls:=[fv f]) (c:=XV) (n:=300) (t:=Pr (Fh 4) (Gp 4)) mo ov (X5 ..) rfl (QK ..) rfl (λY _=>rfl) (λY _=>Cn _) rfl (by kernel_rfl) λY hf hg=>Wz h f
def wJ (k:Int) (v:FV):Ak ([.int .i64 k]++f_ v)=true:=by show Ak (.int .i64 k::f_ v)=true;rw [CA];exact BI v
def nQ (v:FV) (e:Int):Ak (f_ v++[.int .i64 e])=true:=A9.okL_join (BI v) rfl
def oL (v:FV) (e:Int):BS (.tup [.agg (f_ v),.int .i64 e])=true:=by rcases v with ⟨k,i,f⟩;cases f<;>rfl
def KY (k:Int) (v:FV):FV:=match H_ k v with
 | .ok w=>w
 | .error _=>FV.z
def Kk (k:Int) (v:FV):Int:=match H_ k v with
 | .ok _=>0
 | .error e=>e
def Pj {k:Int} {v w:FV} (h:H_ k v=.ok w):KY k v=w/\Kk k v=0:=by unfold KY Kk;rw [h];exact ⟨rfl,rfl⟩
def fa {k e:Int} {v:FV} (h:H_ k v=.error e):KY k v=FV.z/\Kk k v=e:=by unfold KY Kk;rw [h];exact ⟨rfl,rfl⟩
def fo (i:Int):(XOp.conv 2 60).run Tryz.prog [.int .i64 i]=some (fv (some (FloatKind.f64.nearest i))):=rfl
def qq {k:Int} (h:2<=k/\k<=5) (v:FV) (hv:1<=v.k/\v.k<=5):AJ 85 [.int .i64 k,.agg (f_ v)] (.tup [.agg (f_ (KY k v)),.int .i64 (Kk k v)]):=by
 refine Bx [none,some 3] ([.int .i64 k]++f_ v) c85 fD rfl (wJ ..) (oL ..) rfl rfl (by kernel_rfl) λY hf hg=>?_;unfold fD;have fin:∀{w:FV} {e:Int},KY k v=w/\Kk k v=e->AV.tup [.agg (f_ w),.int .i64 e]=.tup [.agg (f_ (KY k v)),.int .i64 (Kk k v)]:=λ⟨h1,h2⟩=>by rw [h1,h2]
 (refine b_ rfl rfl ?_ ?_<;>intro h<;>try omega)
 .have e5:=h;subst e5
  (refine b_ rfl rfl ?_ ?_<;>intro h<;>try omega)
  exact Ap (fin (Pj (by unfold H_;rw [Ad rfl,Ad ‹v.k=5›])))
  ·(refine b_ rfl rfl ?_ ?_<;>intro h<;>try omega)
   refine Aa (fo _) rfl (Ap (fin (w:=⟨5,0,some (FloatKind.f64.nearest v.i)⟩) (Pj (by unfold H_;rw [Ad rfl,Ab ‹¬v.k=5›]))))
 have hk:2<=k/\k<=4:=by omega
 (refine b_ rfl rfl ?_ ?_<;>intro h<;>try omega)
 (refine b_ rfl rfl ?_ ?_<;>intro h<;>try omega)
 .have h5:=h;refine Aq (xx hk v.f) rfl rfl ?_;cases hw:M_ k v.f with
  |some n=>
   have e1:Z_ k v.f=0:=(by unfold Z_;rw [hw];rfl);have e2:GU k v.f=n:=(by unfold GU;rw [hw];rfl);rw [e1,e2]
   (refine b_ rfl rfl ?_ ?_<;>intro h<;>try omega)
   exact Ap (fin (w:=⟨k,n,some 0⟩) (Pj (by unfold H_;rw [Ab (by omega),Ad h5,hw])))
  |none=>
   have e1:Z_ k v.f=7:=(by unfold Z_;rw [hw];rfl);rw [e1]
   (refine b_ rfl rfl ?_ ?_<;>intro h<;>try omega)
   exact Ap (fin (w:=FV.z) (fa (by unfold H_;rw [Ab (by omega),Ad h5,hw])))
 have h5:=h;refine Aq (LW (by omega) _) rfl rfl (Ap (fin (w:=⟨k,F_ k v.i,some 0⟩) (Pj (by unfold H_;rw [Ab (by omega),Ab h5]))))
def LS:List Int:=[2,1,2,1,2,3,5,4,2,2,2,2,1,4,1,4,1,2,1,1,1]
def Aw (mem:List FV):Prop:=mem.map FV.k=LS/\∀v∈mem,TV v
def cell (mem:List FV) (n:Int):FV:=mem.getD n.toNat FV.z
def LY (mem:List FV) (op kd ad n:Int) (a b:FV):Except Int FV:=
 if op=3 then (if a.i<0\/n<=a.i then .error 6 else .ok (cell mem (ad+a.i)))
 else if op=17 then H_ kd a
 else if Dp op a.k b=0 then .ok (D7 op a.k a b)else .error (Dp op a.k b)
section
variable {mem:List FV}
theorem Aw.len (h:Aw mem):mem.length=21:=by have:=congrArg List.length h.1;rw [List.length_map]at this;exact this
def nK {n:Nat} (h:n<mem.length):cell mem (n:Int)=mem[n]:=by unfold cell;rw [Int.toNat_natCast,List.getD_eq_getElem?_getD,List.getElem?_eq_getElem h];rfl
theorem Aw.cell (h:Aw mem) {n:Int} (h1:0<=n) (h2:n<21):TV (cell mem n)/\(cell mem n).k=LS.getD n.toNat 0:=by
 obtain ⟨m,rfl⟩:∃m:Nat,n=(m:Int):=⟨n.toNat,by omega⟩;have hl:=h.len;have hm:m<mem.length:=by omega
 rw [nK hm];refine ⟨h.2 _ (HX hm),?_⟩;have:LS=mem.map FV.k:=h.1.symm;rw [this,Int.toNat_natCast,List.getD_eq_getElem?_getD,List.getElem?_map,List.getElem?_eq_getElem hm];rfl
def ED:∀t∈Jd,0<=t.1/\t.1<21/\LS.getD t.1.toNat 0=t.2:=by decide
def X_ {vs:List FV} {k:Int} (h:vs.map FV.k=[k]):∃a,vs=[a]/\a.k=k:=by
 match vs,h with
 |[],h=>cases h
 |[a],h=>exact ⟨a,rfl,by simpa using h⟩
 |_::_::_,h=>simp at h
def HS {vs:List FV} {k l:Int} (h:vs.map FV.k=[k,l]):∃a b,vs=[a,b]/\a.k=k/\b.k=l:=by
 match vs,h with
 |[],h=>cases h
 |[a],h=>simp at h
 |[a,b],h=>exact ⟨a,b,rfl,by simpa using h⟩
 |_::_::_::_,h=>simp at h
def oM {d:Nat} {op kd:Int} {nm fd:List UInt8} {ad n vk vi:Int} {vf:Nat} {ag:List GX} (h:TX (d+1) (.mk op kd nm fd ad n vk vi vf ag)) (h1:op=1):TV ⟨vk,vi,some vf⟩/\vk=kd:=by obtain ⟨q1,q2,q3,q4,q5,q6,q7,q8⟩:=h.2.2.2.2.1.1 h1;refine ⟨⟨?_,λh=>by rw [q8 h]⟩,q1.symm⟩;show DY vk vi;unfold DY;omega
def oa {k e:Int} {v:FV} (h:H_ k v=.error e):e=7:=by
 unfold H_ at h;split at h
 .split at h<;>cases h
 split at h;split at h;cases h;cases h;rfl;cases h
end
def c_ (l:List FV):AV:=Cv f_ 3 l
theorem G_ (l:List FV):okC (c_ l)=true:=by
 unfold c_;cases l with
 |nil=>rfl
 |cons a r=>simp only [Cv,okC];exact A9 BI (a::r)
def TH (l:List FV):(XOp.len 34).run Tryz.prog [c_ l]=some (.int .i64 (l.length:Int)):=SA Tryz.underlying34 l
def Mz (l:List FV) {i:Nat} (h:i<l.length):(XOp.iaddr 34).run Tryz.prog [c_ l,.int .i64 (i:Int)]=some (.vptr (Ay f_ (l.drop i))):=
 Bw (e:=62) (ti:=(Tryz.prog.info? 62).get!) Tryz.underlying34 (by kernel_rfl) (by kernel_rfl) Eh h .i64
def LT (l:List FV) {i:Nat} (h:i<l.length):(XOp.load 62).run Tryz.prog [.vptr (Ay f_ (l.drop i))]=some (.agg (f_ l[i])):=
 Bz (ti:=(Tryz.prog.info? 62).get!) Tryz.underlying62 rfl (by kernel_rfl) (by kernel_rfl) Eh h
def IG (op k:Int) (a b:FV):FV:=if Dp op k b=0 then D7 op k a b else FV.z
def bg {op:Int} (h:Do op 5):Lw op:=by unfold Do at h;unfold Lw;omega
def p86 {op k:Int} {a b:FV} (ho:Do op k) (ha:TV a) (hk:a.k=k):AJ 86 [.int .i64 op,.int .i64 k,.agg (f_ a),.agg (f_ b)] (.tup [.agg (f_ (IG op k a b)),.int .i64 (Dp op k b)]):=by
 have hok:Ak ([.int .i64 op,.int .i64 k]++(f_ a++f_ b))=true:=A9.okL_join (a:=[_,_]) rfl (A9.okL_join (BI a) (BI b));refine Bx [none,none,some 3,some 3] ([.int .i64 op,.int .i64 k]++(f_ a++f_ b)) wh ij rfl hok (oL ..) rfl rfl (by kernel_rfl) λY hf hg=>?_;unfold ij;have fin:∀{w:FV} {e:Int},IG op k a b=w->Dp op k b=e->AV.tup [.agg (f_ w),.int .i64 e]=.tup [.agg (f_ (IG op k a b)),.int .i64 (Dp op k b)]:=λh1 h2=>by rw [h1,h2]
 (refine b_ rfl rfl ?_ ?_<;>intro h<;>try omega)
 .subst h;have hr:=bg ho;have he:Dp op 5 b=0:=rfl;have hw:IG op 5 a b=Kj op a.f b.f:=(by unfold IG D7;rw [Ad he,Ad rfl]);rw [bd hr]at hw;refine Aq (rp op a.f b.f hr) rfl (by simp only [Ak,okC,CY]) (Aa rfl rfl (Ax (t:=false) rfl (λh=>by cases h) (λ_=>?_)))
  (refine b_ rfl rfl ?_ ?_<;>intro h<;>try omega)
  ·(refine b_ rfl rfl ?_ ?_<;>intro h<;>try omega)
   rw [Ad (by omega)]at hw;exact Aq (v9 _) rfl rfl (Ap (fin hw he));rw [Ab (by omega)]at hw;exact Ap (fin hw he)
  rw [Ab (by omega)]at hw;exact Ap (fin hw he)
 have h5:=h;refine Aq (qw op k a.i b.i ho h5 (hk▸ha.1)) rfl rfl ?_;have he:Dp op k b=CU op b.i:=by unfold Dp;rw [Ab h5]
 (refine b_ rfl rfl ?_ ?_<;>intro h<;>try omega)
 have h0:=h;exact Ap (fin (w:=FV.z) (by unfold IG;rw [he,Ab h0]) he);have h0:=h;have hi:E_ op k a.i b.i=Dk op k a.i b.i:=by unfold E_;rw [Ad h0]
 have hw:IG op k a b=⟨if 9<=op/\op<=12 then 1 else k,E_ op k a.i b.i,some 0⟩:=by unfold IG D7;rw [he,Ad h0,Ab h5,hi]
 rw [h0]at he
 (refine b_ rfl rfl ?_ ?_<;>intro h<;>try omega)
 ·(refine b_ rfl rfl ?_ ?_<;>intro h<;>try omega)
  rw [Ad (by omega)]at hw;exact Ap (fin hw he);rw [Ab (by omega)]at hw;exact Ap (fin hw he)
 rw [Ab (by omega)]at hw;exact Ap (fin hw he)
def vb (e:Int):Nat->List AV->Prop:=λj ws=>(j=0/\e=0/\ws=[])\/(j=1/\e≠0/\ws=[.int .i64 e])
def CV (op:Int) (a b:FV):Except Int FV:=if Dp op a.k b=0 then .ok (D7 op a.k a b)else .error (Dp op a.k b)
def YX (l:List FV) (s:FV) (hl:l.length<=100000):(XOp.app 3 24).run Tryz.prog [c_ l,.agg (f_ s)]=some (c_ (l++[s])):=
 V3 Eh (by decide) (by decide) l s (by omega)
def sS {op:Int} {a:FV} (b c:FV) (h:op=15\/op=16) (ho:Do op a.k):CV op a b=CV op a c:=by
 have e:∀d:FV,Dp op a.k d=0:=λd=>by unfold Dp;split;rfl;exact Ez (by omega)
 have v:D7 op a.k a b=D7 op a.k a c:=by
  unfold D7;split;rename_i h5;have h16:op=16:=(by unfold Do at ho;omega);subst h16;rfl
  .rcases h with rfl|rfl<;>rfl
 unfold CV;rw [Ad (e b),Ad (e c),v]
end Go.Proofs.YtelnbodnjmldeaaGreat.vars
namespace Go.Sx
section
variable {P:Program} {t:TypeId} {ti:TypeInfo} {α:Type} {enc:α->List AV} {w:Nat}
def Fd' {d:TypeDesc} (ht:P.underlying t=some d) (ha:Iy d=true) (hinf:P.info? t=some ti) (hs:ti.size=w) (hw:∀a,(enc a).length=w) {l:List α} {i:Nat} (hi:i<l.length) (k:IntKind):(XOp.ldx t w 0).run P [Cv enc w l,.int k (i:Int)]=some (.agg (enc l[i])):=by
 obtain ⟨a,b,e1,e2,_⟩:=Sv hw l hi;obtain ⟨x0,l',rfl⟩:∃x l',l=x::l':=by cases l with|nil=>simp at hi|cons x l'=>exact ⟨x,l',rfl⟩
 show Ds P (Ew (Ay enc (x0::l'))) t (.ptr 0 (i*w+0))=_;unfold Ds;simp only [ht,ha,hinf];have hg:(Ew (Ay enc (x0::l'))).get 0=some (.cells (Ay enc (x0::l'))):=rfl;unfold DB;simp only [hg];have hd:Bk (i*w+0) (Ay enc (x0::l'))=enc (x0::l')[i]++b:=by rw [Dh,e1,Nat.add_zero,←e2,List.drop_left]
 have hl:ti.size=(enc (x0::l')[i]).length:=by rw [hs,hw]
 rw [hd,hl,JC]
end
end Go.Sx
