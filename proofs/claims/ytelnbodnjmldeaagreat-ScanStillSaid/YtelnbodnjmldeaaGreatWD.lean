/-
  The document's whole numbers.
-/
import Derived.Test.YtelnbodnjmldeaaGreatV4
import Derived.Test.YtelnbodnjmldeaaGreatFA
import Derived.WalkKit
import Derived.ProofKit
import Derived.Laws.Externs
import Derived.Lib.Hide
set_option maxRecDepth 100000
set_option linter.unusedVariables false
set_option linter.unusedSimpArgs false
open Int renaming tmod_lt_of_pos→za'
open Bool renaming false_ne_true→zb'
namespace Go.Proofs.YtelnbodnjmldeaaGreat.vars
open Go Go.Sx
def Gb_:VC:=⟨⟨[],[]⟩,[],[],0,true,[]⟩
def E1_:VT:=.ite 64 (.done (J 1))<|.done (J 0)
def DC_:VC:=⟨⟨[],[]⟩,[(171,[none])],[],0,true,[]⟩
def Cs_:VT:=Li Qc [64,J 0] 65<|.call 171 [65] 66 [none]<|.done (66)
def DD_:VC:=⟨⟨[],[]⟩,[(171,[none])],[],0,true,[]⟩
def Ct_:VT:=Li Zl [64,J 65536] 65<|It Z8 [65,J 0] 66 (Li Zk [65,J 65536] 67<|It Qu [67,J 32768] 68 (Li Zh [67,J 65536] 69<|.done (69))<|.done (67))<|It Qu [65,J 32768] 67 (Li Zh [65,J 65536] 68<|.done (68))<|.done (65)
def DE_:VC:=⟨⟨[],[]⟩,[(171,[none])],[],0,true,[]⟩
def Cu_:VT:=Li Zl [64,J 4294967296] 65<|It Z8 [65,J 0] 66 (Li Zk [65,J 4294967296] 67<|It Qu [67,J 2147483648] 68 (Li Zh [67,J 4294967296] 69<|.done (69))<|.done (67))<|It Qu [65,J 2147483648] 67 (Li Zh [65,J 4294967296] 68<|.done (68))<|.done (65)
def DF_:VC:=⟨⟨[],[]⟩,[(171,[none])],[],0,true,[]⟩
def Cv_:VT:=.done (64)
def DG_:VC:=⟨⟨[],[]⟩,[(171,[none])],[],0,true,[]⟩
def Cw_:VT:=.done (J 0)
theorem Hc_ (b:Bool):jD_ Tryz.prog 171 [.bool b] (.int .i64 (tI b)):=by refine uk_ (sh:=[none]) (ls:=[.bool b]) (c:=Gb_) (n:=300) (t:=E1_) mo ov rfl rfl rfl (λY _=>vX_ _) rfl (by kernel_rfl) λY hf hg=>?_;unfold E1_;cases b;exact vz_ (t:=false) rfl (λh=>by cases h) (λh=>uX_ rfl);exact vz_ (t:=true) rfl (λh=>uX_ rfl) (λh=>by cases h)
def wT_ (n x:Int):Int:=if x.tmod n<0 then (if n/2<=x.tmod n+n then x.tmod n+n-n else x.tmod n+n)else (if n/2<=x.tmod n then x.tmod n-n else x.tmod n)
theorem w1_ (x n:Int) (hn:0<n): -n<x.tmod n/\x.tmod n<n:=by refine ⟨?_,za' x hn⟩;have:=za' (-x) hn;rw [Int.neg_tmod]at this;omega
theorem zv_ (x n:Int) (hn:0<n):x.tmod n=x%n\/(x.tmod n=x%n-n/\x%n≠0):=by rw [Int.tmod_eq_emod];split;left;omega;rename_i h;right;have h2:¬n ∣ x:=λhd=>h (.inr hd);have:x%n≠0:=λe=>h2 (Int.dvd_of_emod_eq_zero e);omega
theorem B6_ (x:Int):wT_ 65536 x=IntKind.i16.wrap x:=by have h:=zv_ x 65536 (by omega);have hb:=w1_ x 65536 (by omega);simp only [IntKind.wrap,IntKind.bits,IntKind.signed,wT_];simp;generalize x.tmod 65536=r at*;omega
theorem B7_ (x:Int):wT_ 4294967296 x=IntKind.i32.wrap x:=by have h:=zv_ x 4294967296 (by omega);have hb:=w1_ x 4294967296 (by omega);simp only [IntKind.wrap,IntKind.bits,IntKind.signed,wT_];simp;generalize x.tmod 4294967296=r at*;omega
theorem Ew_ (x:Int):jD_ Tryz.prog 130 [.int .i64 1,.int .i64 x] (.int .i64 (T_ 1 x)):=by refine vj_ (args':=[.int .i64 1,.sym 64]) (ls:=[.int .i64 x]) (c:=DC_) (n:=300) (t:=Cs_) mo ov rfl rfl rfl rfl (λY _=>rfl) (λY _=>vX_ _) rfl (by kernel_rfl) λY hf hg=>?_;unfold Cs_;refine VOK_lt (run_neq ..) rfl (uW_ (Hc_ _) rfl rfl (uX_ ?_));by_cases hi:x=0<;>simp [hi,T_,tI]<;>rfl
theorem Ez_ (x:Int):jD_ Tryz.prog 130 [.int .i64 4,.int .i64 x] (.int .i64 x):=by refine vj_ (args':=[.int .i64 4,.sym 64]) (ls:=[.int .i64 x]) (c:=DF_) (n:=300) (t:=Cv_) mo ov rfl rfl rfl rfl (λY _=>rfl) (λY _=>vX_ _) rfl (by kernel_rfl) λY hf hg=>?_;unfold Cv_;exact uX_ rfl
theorem EA_ (x:Int):jD_ Tryz.prog 130 [.int .i64 5,.int .i64 x] (.int .i64 0):=by refine vj_ (args':=[.int .i64 5,.sym 64]) (ls:=[.int .i64 x]) (c:=DG_) (n:=300) (t:=Cw_) mo ov rfl rfl rfl rfl (λY _=>rfl) (λY _=>vX_ _) rfl (by kernel_rfl) λY hf hg=>?_;unfold Cw_;exact uX_ rfl
theorem Ex_ (x:Int):jD_ Tryz.prog 130 [.int .i64 2,.int .i64 x] (.int .i64 (wT_ 65536 x)):=by
 have hb:=w1_ x 65536 (by omega);refine vj_ (args':=[.int .i64 2,.sym 64]) (ls:=[.int .i64 x]) (c:=DD_) (n:=300) (t:=Ct_) mo ov rfl rfl rfl rfl (λY _=>rfl) (λY _=>vX_ _) rfl (by kernel_rfl) λY hf hg=>?_;unfold Ct_;have hr:=vp_ (P:=Tryz.prog) (k:=.i64) (x:=x) (c:=65536) (by omega) 2 false false;unfold wT_;generalize x.tmod 65536=r at*;refine VOK_lt hr rfl ?_;repeat' (first
  |refine VOK_lt (run_lss ..) rfl ?_
  |refine VOK_lt (run_geq ..) rfl ?_
  |refine VOK_lt (run_add ..) rfl ?_
  |refine VOK_lt (run_sub ..) rfl ?_
  |refine vz_ rfl (λh=>?_) (λh=>?_)
  |refine uX_ ?_)
 all_goals (simp only [decide_eq_true_eq,decide_eq_false_iff_not]at *)
 all_goals (try rw [v6_ (x:=r+65536) (by omega) (by omega)]at *)
 all_goals
  (show AV.int .i64 _=AV.int .i64 _
   congr 1
   repeat' split
   all_goals first
    |(exfalso;omega)
    |rfl
    |(rw [v6_ (x:=r+65536-65536) (by omega) (by omega)])
    |(rw [v6_ (x:=r-65536) (by omega) (by omega)])
    |omega)
theorem Ey_ (x:Int):jD_ Tryz.prog 130 [.int .i64 3,.int .i64 x] (.int .i64 (wT_ 4294967296 x)):=by
 have hb:=w1_ x 4294967296 (by omega);refine vj_ (args':=[.int .i64 3,.sym 64]) (ls:=[.int .i64 x]) (c:=DE_) (n:=300) (t:=Cu_) mo ov rfl rfl rfl rfl (λY _=>rfl) (λY _=>vX_ _) rfl (by kernel_rfl) λY hf hg=>?_;unfold Cu_;have hr:=vp_ (P:=Tryz.prog) (k:=.i64) (x:=x) (c:=4294967296) (by omega) 2 false false;unfold wT_;generalize x.tmod 4294967296=r at*;refine VOK_lt hr rfl ?_;repeat' (first
  |refine VOK_lt (run_lss ..) rfl ?_
  |refine VOK_lt (run_geq ..) rfl ?_
  |refine VOK_lt (run_add ..) rfl ?_
  |refine VOK_lt (run_sub ..) rfl ?_
  |refine vz_ rfl (λh=>?_) (λh=>?_)
  |refine uX_ ?_)
 all_goals (simp only [decide_eq_true_eq,decide_eq_false_iff_not]at *)
 all_goals (try rw [v6_ (x:=r+4294967296) (by omega) (by omega)]at *)
 all_goals
  (show AV.int .i64 _=AV.int .i64 _
   congr 1
   repeat' split
   all_goals first
    |(exfalso;omega)
    |rfl
    |(rw [v6_ (x:=r+4294967296-4294967296) (by omega) (by omega)])
    |(rw [v6_ (x:=r-4294967296) (by omega) (by omega)])
    |omega)
theorem G8_ {k:Int} (h:1<=k/\k<=5) (x:Int):jD_ Tryz.prog 130 [.int .i64 k,.int .i64 x] (.int .i64 (T_ k x)):=by rcases (by omega:k=1\/k=2\/k=3\/k=4\/k=5)with rfl|rfl|rfl|rfl|rfl;exact Ew_ x;have:=Ex_ x;rw [B6_]at this;exact this;have:=Ey_ x;rw [B7_]at this;exact this;exact Ez_ x;exact EA_ x
end Go.Proofs.YtelnbodnjmldeaaGreat.vars
set_option maxRecDepth 100000
set_option linter.unusedVariables false
set_option linter.unusedSimpArgs false
namespace Go.Proofs.YtelnbodnjmldeaaGreat.vars
open Go.Sx Go
theorem xE_ (s:Bool) (t:Nat):((FloatKind.f64.format).read (FloatKind.f64.encode (.nan s (FloatKind.f64.format.quiet t)))).isNaN=true:=by
 refine jd_ ?_ (by decide +kernel);have h51:(Ieee.Format.quiet Ieee.double t%Ieee.double.binade).testBit 51=true:=by have hb:Ieee.double.binade=2^52:=(by decide +kernel);rw [hb,Nat.testBit_mod_two_pow];show (decide (51<52)&&(t|||2^(Ieee.double.fractionBits-1)).testBit 51)=true;have hf:Ieee.double.fractionBits-1=51:=(by decide +kernel);rw [hf,Nat.testBit_or,Nat.testBit_two_pow_self];simp
 have hpos:0<Ieee.Format.quiet Ieee.double t%Ieee.double.binade:=by rcases Nat.eq_zero_or_pos (Ieee.Format.quiet Ieee.double t%Ieee.double.binade)with h|h;rw [h]at h51;simp at h51;exact h
 have hlt:Ieee.Format.quiet Ieee.double t%Ieee.double.binade<Ieee.double.binade:=Nat.mod_lt _ (by decide +kernel);show Ieee.double.infRung<(Ieee.double.word s (Ieee.double.infRung+Ieee.Format.quiet Ieee.double t%Ieee.double.binade))%Ieee.double.signWeight;generalize Ieee.Format.quiet Ieee.double t%Ieee.double.binade=q at*;have e1:Ieee.double.infRung=9218868437227405312:=by decide +kernel
 have e2:Ieee.double.signWeight=9223372036854775808:=by decide +kernel
 have e3:Ieee.double.binade=4503599627370496:=by decide +kernel
 unfold Ieee.Format.word;rw [e1,e2];rw [e3]at hlt;cases s<;>simp<;>omega
theorem A9_ (b:Nat):∃q:Question,Extern.MathFloor.toIntegral "math.archTrunc" .zero #[.float .f64 b]=(match FloatKind.f64.format.read b with
 | .nan s t=>if FloatKind.f64.format.quiet t=t then pure (.float .f64 b)else do
    let kept←choose q
    pure (.float .f64 (if kept==1 then b else FloatKind.f64.encode (.nan s (FloatKind.f64.format.quiet t))))
 |d=>pure (.float .f64 (FloatKind.f64.encode (d.integral .zero)))):=⟨_,rfl⟩
def Dq_ (b b':Nat):Prop:=(d9_ b=true->((FloatKind.f64.format).read b').isNaN=true)/\(d9_ b=false->b'=lD_ b)
theorem zW_ {P:Program} (b:Nat) (w:World):
  ∃b' n,(Extern.MathFloor.toIntegral "math.archTrunc" .zero #[.float .f64 b]).run P w=.ok (.float .f64 b') { w with drawn:=n }/\Dq_ b b':=by
 obtain ⟨q,e⟩:=A9_ b;rw [e];have hn:(FloatKind.f64.format.read b).isNaN=d9_ b:=uO_;cases hd:FloatKind.f64.format.read b with
 |number s m i=>rw [hd]at hn;refine ⟨lD_ b,w.drawn,?_,λh=>(zb' (hn.trans h)).elim,λ_=>rfl⟩;unfold lD_;rw [show Ieee.double.read b=_ from hd];rfl
 |infinity s=>rw [hd]at hn;refine ⟨lD_ b,w.drawn,?_,λh=>(zb' (hn.trans h)).elim,λ_=>rfl⟩;unfold lD_;rw [show Ieee.double.read b=_ from hd];rfl
 |nan s t=>rw [hd]at hn;have hf:d9_ b≠false:=λh=>(by rw [←hn]at h;cases h);simp only;split;exact ⟨b,w.drawn,rfl,λ_=>by rw [hd];rfl,λh=>absurd h hf⟩;simp only [Sem.run_bind,choose,Sem.run,Result.andThen];by_cases hq:q.forced=true;rw [if_pos hq];exact ⟨_,w.drawn,rfl,λ_=>xE_ s t,λh=>absurd h hf⟩;rw [if_neg hq];refine ⟨_,_,rfl,λ_=>?_,λh=>absurd h hf⟩;split;rw [hd];rfl;exact xE_ s t
theorem yY_ (b:Nat) (w:World):
  Calls Tryz.prog 173 #[.float .f64 b] w λe w'=>∃b' n,e=.returned (.float .f64 b')/\w'={ w with drawn:=n }/\Dq_ b b':=by
 obtain ⟨b',n,h1,h2⟩:=zW_ (P:=Tryz.prog) b w;have h3:(callFunc 205 #[.float .f64 b]).run Tryz.prog w=.ok (.value (.float .f64 b')) { w with drawn:=n }:=by rw [run_callFunc_extern (P:=Tryz.prog) (f:=205) (e:=Extern.MathFloor.toIntegral "math.archTrunc" .zero) Tryz.func205 (by kernel_rfl) (by kernel_rfl) (by kernel_rfl) (by kernel_rfl),h1];rfl
 have H2:=Lib.hid h2;clear h2 h1;generalize hw1:({ w with drawn:=n }:World)=w1 at*;have H3:=Lib.hid hw1;clear hw1
 go_enter Tryz.func173,Tryz.ntmps173
 go_wp2
 go_ret
 exact ⟨b',n,rfl,H3.out.symm,H2.out⟩
theorem Hd_ (o:Option Nat):jD_ Tryz.prog 173 [fv o] (fv (uw_ o)):=by
 intro H B pr E w vs hg hr hc;have key:∃b,vs=[.float .f64 b]/\(d9_ b=lj_ o)/\(lj_ o=false->o=some b):=by
  cases o with
  |none=>simp only [fv,mkF,ConL,Con]at hc;obtain ⟨v,r,rfl,⟨b,rfl,hb⟩,rfl⟩:=hc;exact ⟨b,rfl,by rw [←uO_];exact hb,λh=>by cases h⟩
  |some b=>simp only [fv,mkF,ConL,Con]at hc;obtain ⟨v,r,rfl,rfl,rfl⟩:=hc;exact ⟨b,rfl,rfl,λ_=>rfl⟩
 obtain ⟨b,rfl,hn,ho⟩:=key;refine (yY_ b w).mono λe w' he=>?_;obtain ⟨b',n,rfl,rfl,h1,h2⟩:=he;refine ⟨E,Env.le_refl E,_,rfl,?_,hr.drawn n⟩;cases hb:lj_ o with
 |true=>
  have e:uw_ o=none:=by
   cases o with
   |none=>rfl
   |some x=>show (if d9_ x=true then none else some (lD_ x))=none;exact if_pos hb
  rw [e];simp only [fv,mkF,Con];exact ⟨b',rfl,h1 (hn.trans hb)⟩
 |false=>
  rw [ho hb];have hb':d9_ b=false:=hn.trans hb;have e:uw_ (some b)=some (lD_ b):=by show (if d9_ b=true then none else some (lD_ b))=_;rw [if_neg (by rw [hb'];exact Bool.false_ne_true)]
  rw [e,←h2 hb'];simp only [fv,mkF,Con]
def F9_:VC:=⟨⟨[],[]⟩,[],[],0,true,[]⟩
def EZ_:VT:=Iq 64 4 67 (Li Uw [65,66] 68<|.done (.tup [68,.bool false,.bool true]))<|Iq 64 5 68 (Li Ux [65,66] 69<|.done (.tup [69,.bool false,.bool true]))<|Iq 64 6 69 (Li Uy [65,66] 70<|.done (.tup [70,.bool false,.bool true]))<|Iq 64 7 70 (Li Uz [65,66] 71<|.done (.tup [71,.bool false,.bool true]))<|Iq 64 16 71 (Li Zb [65] 72<|.done (.tup [72,.bool false,.bool true]))<|Iq 64 9 72 (Li G0 [65,66] 73<|.done (.tup [.flt .f64 0,73,.bool true]))<|Iq 64 10 73 (Li Zf [65,66] 74<|.done (.tup [.flt .f64 0,74,.bool true]))<|Iq 64 11 74 (Li Uc [65,66] 75<|.done (.tup [.flt .f64 0,75,.bool true]))<|Iq 64 12 75 (Li G1 [65,66] 76<|.done (.tup [.flt .f64 0,76,.bool true]))<|.done (.tup [.flt .f64 0,.bool false,.bool false])
def Gf_:VC:=⟨⟨[],[]⟩,[],[],0,true,[]⟩
def E5_:VT:=Iq 64 2 65 (.done (.tup [.flt .f64 13898108450065350656,.bool true]))<|Iq 64 3 66 (.done (.tup [.flt .f64 13970166044103278592,.bool true]))<|Iq 64 4 67 (.done (.tup [.flt .f64 14114281232179134464,.bool true]))<|.done (.tup [.flt .f64 0,.bool false])
def F7_:VC:=⟨⟨[],[]⟩,[(198,[none,none]),(173,[none])],[],0,true,[]⟩
def EX_:VT:=.call 198 [64] 66 [none,none]<|It Q6 [67] 68 (Dn [J 4])<|.call 173 [65] 69 [none]<|It (.bin .geq 60 false false) [69,66] 70 (Li Zb [66] 71<|It Uc [69,71] 72 (Li (.conv 60 2) [69] 73<|.done (.tup [73,J 0]))<|Dn [J 7])<|Dn [J 7]
theorem xe_ (a:Option Nat):(XOp.un .neg).run Tryz.prog [fv a]=some (fv (a.map (Op.negFloat .f64))):=by cases a<;>rfl
theorem yt_ (t:TypeId) (cx cy:Bool) (a b:Option Nat):(XOp.bin .add t cx cy).run Tryz.prog [fv a,fv b]=some (fv (fM_ FloatKind.f64.format.add a b)):=by rw [vo_];rfl
theorem yy_ (t:TypeId) (cx cy:Bool) (a b:Option Nat):(XOp.bin .sub t cx cy).run Tryz.prog [fv a,fv b]=some (fv (fM_ FloatKind.f64.format.sub a b)):=by rw [vo_];rfl
theorem yw_ (t:TypeId) (cx cy:Bool) (a b:Option Nat):(XOp.bin .mul t cx cy).run Tryz.prog [fv a,fv b]=some (fv (fM_ FloatKind.f64.format.mul a b)):=by rw [vo_];rfl
theorem yx_ (t:TypeId) (cx cy:Bool) (a b:Option Nat):(XOp.bin .quo t cx cy).run Tryz.prog [fv a,fv b]=some (fv (fM_ FloatKind.f64.format.div a b)):=by rw [vo_];rfl
theorem yu_ (t:TypeId) (cx cy:Bool) (a b:Option Nat):(XOp.bin .eql t cx cy).run Tryz.prog [fv a,fv b]=some (.bool (ordF a b==some .eq)):=by rw [vo_];rfl
theorem xf_ (t:TypeId) (cx cy:Bool) (a b:Option Nat):(XOp.bin .neq t cx cy).run Tryz.prog [fv a,fv b]=some (.bool (ordF a b !=some .eq)):=by rw [vo_];rfl
theorem xd_ (t:TypeId) (cx cy:Bool) (a b:Option Nat):(XOp.bin .lss t cx cy).run Tryz.prog [fv a,fv b]=some (.bool (ordF a b==some .lt)):=by rw [vo_];rfl
theorem yv_ (t:TypeId) (cx cy:Bool) (a b:Option Nat):(XOp.bin .leq t cx cy).run Tryz.prog [fv a,fv b]=some (.bool (ordF a b==some .lt||ordF a b==some .eq)):=by rw [vo_];rfl
theorem AP_ (t:TypeId) (cx cy:Bool) (a b:Option Nat):(XOp.bin .geq t cx cy).run Tryz.prog [fv a,fv b]=some (.bool (ordF a b==some .gt||ordF a b==some .eq)):=by rw [vo_];rfl
def OpR (op:Int):Prop:=(4<=op/\op<=7)\/op=16\/(9<=op/\op<=12)
def wR_ (op:Int) (a b:Option Nat):Option Nat:=
 if op=4 then fM_ FloatKind.f64.format.add a b else if op=5 then fM_ FloatKind.f64.format.sub a b else if op=6 then fM_ FloatKind.f64.format.mul a b else if op=7 then fM_ FloatKind.f64.format.div a b
 else if op=16 then a.map (Op.negFloat .f64)else some 0
def ys_ (op:Int) (a b:Option Nat):Bool:=if 9<=op/\op<=12 then Eh_ op (ordF a b)else false
theorem x2_ {op:Int} {a b:Option Nat} (h:OpR op):wS_ op a b=if 9<=op/\op<=12 then ⟨1,tI (ys_ op a b),some 0⟩else ⟨5,0,wR_ op a b⟩:=by rcases (by unfold OpR at h;omega:op=4\/op=5\/op=6\/op=7\/op=16\/op=9\/op=10\/op=11\/op=12)with rfl|rfl|rfl|rfl|rfl|rfl|rfl|rfl|rfl<;>rfl
theorem G0_ (f:Option Nat) (b c:Bool):aX_ (.tup [fv f,.bool b,.bool c])=true:=by cases f<;>rfl
theorem GX_ (k:Int) (f:Option Nat):okL [.int .i64 k,fv f]=true:=by cases f<;>rfl
theorem D7_ (op:Int) (a b:Option Nat):okL [.int .i64 op,fv a,fv b]=true:=by cases a<;>cases b<;>rfl
theorem zO_ (op:Int) (a b:Option Nat) (h:OpR op):jD_ Tryz.prog 166 [.int .i64 op,fv a,fv b] (.tup [fv (wR_ op a b),.bool (ys_ op a b),.bool true]):=by
 unfold OpR at h;refine uk_ (sh:=[none,none,none]) (ls:=[.int .i64 op,fv a,fv b]) (c:=F9_) (n:=300) (t:=EZ_) mo ov rfl (D7_ ..) (G0_ ..) (λY _=>vX_ _) rfl (by kernel_rfl) λY hf hg=>?_;unfold EZ_
 (refine b_ rfl rfl ?_ ?_<;>intro h<;>simp only [nc]at h<;>try omega)
 .subst op;(first
             |exact VOK_lt (yt_ ..) (v8_ _) (uX_ (by rfl))
             |exact VOK_lt (yt_ ..) rfl (uX_ (by rfl)))
 (refine b_ rfl rfl ?_ ?_<;>intro h<;>simp only [nc]at h<;>try omega)
 .subst op;(first
             |exact VOK_lt (yy_ ..) (v8_ _) (uX_ (by rfl))
             |exact VOK_lt (yy_ ..) rfl (uX_ (by rfl)))
 (refine b_ rfl rfl ?_ ?_<;>intro h<;>simp only [nc]at h<;>try omega)
 .subst op;(first
             |exact VOK_lt (yw_ ..) (v8_ _) (uX_ (by rfl))
             |exact VOK_lt (yw_ ..) rfl (uX_ (by rfl)))
 (refine b_ rfl rfl ?_ ?_<;>intro h<;>simp only [nc]at h<;>try omega)
 .subst op;(first
             |exact VOK_lt (yx_ ..) (v8_ _) (uX_ (by rfl))
             |exact VOK_lt (yx_ ..) rfl (uX_ (by rfl)))
 (refine b_ rfl rfl ?_ ?_<;>intro h<;>simp only [nc]at h<;>try omega)
 .subst op;(first
             |exact VOK_lt (xe_ ..) (v8_ _) (uX_ (by rfl))
             |exact VOK_lt (xe_ ..) rfl (uX_ (by rfl)))
 (refine b_ rfl rfl ?_ ?_<;>intro h<;>simp only [nc]at h<;>try omega)
 .subst op;(first
             |exact VOK_lt (yu_ ..) (v8_ _) (uX_ (by rfl))
             |exact VOK_lt (yu_ ..) rfl (uX_ (by rfl)))
 (refine b_ rfl rfl ?_ ?_<;>intro h<;>simp only [nc]at h<;>try omega)
 .subst op;(first
             |exact VOK_lt (xf_ ..) (v8_ _) (uX_ (by rfl))
             |exact VOK_lt (xf_ ..) rfl (uX_ (by rfl)))
 (refine b_ rfl rfl ?_ ?_<;>intro h<;>simp only [nc]at h<;>try omega)
 .subst op;(first
             |exact VOK_lt (xd_ ..) (v8_ _) (uX_ (by rfl))
             |exact VOK_lt (xd_ ..) rfl (uX_ (by rfl)))
 (refine b_ rfl rfl ?_ ?_<;>intro h<;>simp only [nc]at h<;>try omega)
 subst op;(first
            |exact VOK_lt (yv_ ..) (v8_ _) (uX_ (by rfl))
            |exact VOK_lt (yv_ ..) rfl (uX_ (by rfl)))
theorem Hg_ {k:Int} (h:2<=k/\k<=4):jD_ Tryz.prog 198 [.int .i64 k] (.tup [fv (some (loK k)),.bool true]):=by
 refine uk_ (sh:=[none]) (ls:=[.int .i64 k]) (c:=Gf_) (n:=300) (t:=E5_) mo ov rfl rfl rfl (λY _=>vX_ _) rfl (by kernel_rfl) λY hf hg=>?_;unfold E5_
 (refine b_ rfl rfl ?_ ?_<;>intro h<;>simp only [nc]at h<;>try omega)
 subst k;exact uX_ rfl
 (refine b_ rfl rfl ?_ ?_<;>intro h<;>simp only [nc]at h<;>try omega)
 subst k;exact uX_ rfl
 (refine b_ rfl rfl ?_ ?_<;>intro h<;>simp only [nc]at h<;>try omega)
 subst k;exact uX_ rfl
theorem AC_ {k:Int} (h:2<=k/\k<=4):Op.negFloat .f64 (loK k)=hiK k:=by rcases (by omega:k=2\/k=3\/k=4)with rfl|rfl|rfl<;>kernel_rfl
def v3_ (k:Int) (f:Option Nat):Int:=(V_ k f).getD 0
def uT_ (k:Int) (f:Option Nat):Int:=if (V_ k f).isSome then 0 else 7
theorem cvW {k:Int} {f:Option Nat} {n:Int} (h:2<=k/\k<=4) (hn:V_ k f=some n):(XOp.conv 60 2).run Tryz.prog [fv (uw_ f)]=some (.int .i64 n):=by
 have hi:=(xH_ h hn).i64;unfold V_ at hn;split at hn;· cases hn
 split at hn;· cases hn
 split at hn;exact uo_ Tryz.underlying60 Tryz.underlying2 hn hi.1 hi.2;cases hn
theorem y2_ {k:Int} {f:Option Nat} (h:2<=k/\k<=4) (h0:lj_ f=false) (h1:ordF (uw_ f) (some (loK k))≠some .lt) (h2:ordF (uw_ f) (some (hiK k))=some .lt):∃n,V_ k f=some n:=by unfold V_;rw [h0,if_neg (by decide),if_neg h1,if_pos h2];rcases (by omega:k=2\/k=3\/k=4)with rfl|rfl|rfl;obtain ⟨m,e,a,b⟩:=tu_ (k:=15) (j:= -37) rfl (by kernel_rfl) (by kernel_rfl) h1 h2;exact ⟨m,e⟩;obtain ⟨m,e,a,b⟩:=tu_ (k:=31) (j:= -21) rfl (by kernel_rfl) (by kernel_rfl) h1 h2;exact ⟨m,e⟩;obtain ⟨m,e,a,b⟩:=tu_ (k:=63) (j:=11) rfl (by kernel_rfl) (by kernel_rfl) h1 h2;exact ⟨m,e⟩
theorem CZ_ {k:Int} (h:2<=k/\k<=4):lj_ (some (loK k))=false/\lj_ (some (hiK k))=false:=by rcases (by omega:k=2\/k=3\/k=4)with rfl|rfl|rfl<;>exact ⟨by kernel_rfl,by kernel_rfl⟩
theorem y1_ {k:Int} {f:Option Nat} {n:Int} (h:V_ k f=some n):AV.tup [.int .i64 n,.int .i64 0]=.tup [.int .i64 (v3_ k f),.int .i64 (uT_ k f)]:=by unfold v3_ uT_;rw [h];rfl
theorem xn_ {k:Int} {f:Option Nat} (h:V_ k f=none):AV.tup [.int .i64 0,.int .i64 7]=.tup [.int .i64 (v3_ k f),.int .i64 (uT_ k f)]:=by unfold v3_ uT_;rw [h];rfl
theorem AJ_ {k:Int} (h:2<=k/\k<=4) {f:Option Nat} (hn:lj_ f=false):(ordF (uw_ f) (some (loK k))==some .gt||ordF (uw_ f) (some (loK k))==some .eq)= !(ordF (uw_ f) (some (loK k))==some .lt):=by obtain ⟨o,e⟩:=uR_ (a:=uw_ f) (b:=some (loK k)) (by rw [ux_];exact hn) (CZ_ h).1;rw [e];cases o<;>rfl
theorem Hb_ {k:Int} (h:2<=k/\k<=4) (f:Option Nat):jD_ Tryz.prog 164 [.int .i64 k,fv f] (.tup [.int .i64 (v3_ k f),.int .i64 (uT_ k f)]):=by
 refine uk_ (sh:=[none,none]) (ls:=[.int .i64 k,fv f]) (c:=F7_) (n:=300) (t:=EX_) mo ov rfl (GX_ ..) rfl (λY _=>vX_ _) rfl (by kernel_rfl) λY hf hg=>?_;unfold EX_;refine uW_ (Hg_ h) rfl rfl (VOK_lt rfl rfl (vz_ (t:=false) rfl (λh=>by cases h) (λ_=>?_)));refine uW_ (Hd_ f) rfl (by simp only [okL,v8_]) (VOK_lt (AP_ ..) rfl (vz_ rfl (λh1=>?_) (λh1=>?_)))
 .refine VOK_lt (xe_ ..) (v8_ _) (VOK_lt (xd_ ..) rfl (vz_ rfl (λh2=>?_) (λh2=>?_)))
  .have h2:(ordF (uw_ f) (some (Op.negFloat .f64 (loK k)))==some .lt)=true:=h2;rw [AC_ h]at h2;have hn:lj_ f=false:=by
    cases hc:lj_ f with
    |false=>rfl
    |true=>rw [vh_ (by rw [ux_];exact hc)]at h2;cases h2
   rw [AJ_ h hn]at h1;obtain ⟨n,hw⟩:=y2_ h hn (λe=>by rw [e]at h1;cases h1) (by simpa using h2);exact VOK_lt (cvW h hw) rfl (uX_ (y1_ hw))
  .have h2:(ordF (uw_ f) (some (Op.negFloat .f64 (loK k)))==some .lt)=false:=h2;rw [AC_ h]at h2;refine uX_ (xn_ ?_);unfold V_;split;· rfl
   split;· rfl
   split;rename_i e;rw [e]at h2;cases h2;rfl
 .refine uX_ (xn_ ?_);unfold V_;split;· rfl
  rename_i hn;have hn:lj_ f=false:=(by simpa using hn);rw [AJ_ h hn]at h1;rw [if_pos (by simpa using h1)]
theorem GV_ (f:Option Nat):okL [fv f]=true:=by cases f<;>rfl
theorem y8_ (f:Option Nat):(ordF f f !=some .eq)=lj_ f:=by show (!(ordF f f==some .eq))=_;rw [uQ_,Bool.not_not]
theorem G1_ (v:FV) (e:Int):okL (m_ v++[.int .i64 e])=true:=kY_.okL_join (okV v) rfl
theorem BN_ (i:Int):(XOp.conv 2 60).run Tryz.prog [.int .i64 i]=some (fv (some (FloatKind.f64.nearest i))):=rfl
def wo_:List Int:=[2,1,2,1,2,3,5,4,2,2,2,2,1,4,1,4,1,2,1,1,1]
def MemOk (mem:List FV):Prop:=mem.map FV.k=wo_/\∀v∈mem,TV v
def cell (mem:List FV) (n:Int):FV:=mem.getD n.toNat FV.z
def w6_ (mem:List FV) (op kd ad n:Int) (a b:FV):Except Int FV:=
 if op=3 then (if a.i<0\/n<=a.i then .error 6 else .ok (cell mem (ad+a.i)))
 else if op=17 then sN_ kd a
 else if opE op a.k b=0 then .ok (opV op a.k a b)else .error (opE op a.k b)
section
variable {mem:List FV}
theorem MemOk.len (h:MemOk mem):mem.length=21:=by have:=congrArg List.length h.1;rw [List.length_map]at this;exact this
theorem y7_ {n:Nat} (h:n<mem.length):cell mem (n:Int)=mem[n]:=by unfold cell;rw [Int.toNat_natCast,List.getD_eq_getElem?_getD,List.getElem?_eq_getElem h];rfl
theorem MemOk.cell (h:MemOk mem) {n:Int} (h1:0<=n) (h2:n<21):TV (cell mem n)/\(cell mem n).k=wo_.getD n.toNat 0:=by
 obtain ⟨m,rfl⟩:∃m:Nat,n=(m:Int):=⟨n.toNat,by omega⟩;have hl:=h.len;have hm:m<mem.length:=by omega
 rw [y7_ hm];refine ⟨h.2 _ (List.getElem_mem hm),?_⟩;have:wo_=mem.map FV.k:=h.1.symm;rw [this,Int.toNat_natCast,List.getD_eq_getElem?_getD,List.getElem?_map,List.getElem?_eq_getElem hm];rfl
theorem cells_k:∀t∈uy_,0<=t.1/\t.1<21/\wo_.getD t.1.toNat 0=t.2:=by decide
theorem uN_ {vs:List FV} {k:Int} (h:vs.map FV.k=[k]):∃a,vs=[a]/\a.k=k:=by
 match vs,h with
 |[],h=>cases h
 |[a],h=>exact ⟨a,rfl,by simpa using h⟩
 |_::_::_,h=>simp at h
theorem v0_ {vs:List FV} {k l:Int} (h:vs.map FV.k=[k,l]):∃a b,vs=[a,b]/\a.k=k/\b.k=l:=by
 match vs,h with
 |[],h=>cases h
 |[a],h=>simp at h
 |[a,b],h=>exact ⟨a,b,rfl,by simpa using h⟩
 |_::_::_::_,h=>simp at h
theorem Ax_ {d:Nat} {op kd:Int} {nm fd:List UInt8} {ad n vk vi:Int} {vf:Nat} {args:List GX} (h:TX (d+1) (.mk op kd nm fd ad n vk vi vf args)) (h1:op=1):TV ⟨vk,vi,some vf⟩/\vk=kd:=by obtain ⟨q1,q2,q3,q4,q5,q6,q7,q8⟩:=h.2.2.2.2.1.1 h1;refine ⟨⟨?_,λh=>by rw [q8 h]⟩,q1.symm⟩;show InK vk vi;unfold InK;omega
theorem zC_ {k e:Int} {v:FV} (h:sN_ k v=.error e):e=7:=by
 unfold sN_ at h;split at h
 .split at h<;>cases h
 split at h;split at h;cases h;cases h;rfl;cases h
end
def e_ (l:List FV):AV:=a3_ m_ 3 l
theorem qt_ (l:List FV):okC (e_ l)=true:=by
 unfold e_;cases l with
 |nil=>rfl
 |cons a r=>simp only [a3_,okC];exact kY_ okV (a::r)
theorem vk_ (l:List FV):(XOp.len 34).run Tryz.prog [e_ l]=some (.int .i64 (l.length:Int)):=uq_ Tryz.underlying34 l
theorem xg_ (l:List FV) {i:Nat} (h:i<l.length):(XOp.iaddr 34).run Tryz.prog [e_ l,.int .i64 (i:Int)]=some (.vptr (bi_ m_ (l.drop i))):=
 run_iaddr_sl (e:=62) (ti:=(Tryz.prog.info? 62).get!) Tryz.underlying34 (by kernel_rfl) (by kernel_rfl) wt_ h .i64
theorem ww_ (l:List FV) {i:Nat} (h:i<l.length):(XOp.load 62).run Tryz.prog [.vptr (bi_ m_ (l.drop i))]=some (.agg (m_ l[i])):=
 run_load_agg (ti:=(Tryz.prog.info? 62).get!) Tryz.underlying62 rfl (by kernel_rfl) (by kernel_rfl) wt_ h
theorem w7_ {op:Int} (h:OpK op 5):OpR op:=by unfold OpK at h;unfold OpR;omega
def RE0 (e:Int):Nat->List AV->Prop:=λj ws=>(j=0/\e=0/\ws=[])\/(j=1/\e≠0/\ws=[.int .i64 e])
def opX (op:Int) (a b:FV):Except Int FV:=if opE op a.k b=0 then .ok (opV op a.k a b)else .error (opE op a.k b)
end Go.Proofs.YtelnbodnjmldeaaGreat.vars
set_option linter.unusedVariables false
set_option linter.unusedSimpArgs false
namespace Go.Sx
section
variable {P:Program} {t:TypeId} {ti:TypeInfo} {α:Type} {enc:α->List AV} {w:Nat}
theorem run_ldx1 {d:TypeDesc} (ht:P.underlying t=some d) (ha:lN_ d=false) (hw:∀a,(enc a).length=w) {l:List α} {i:Nat} (hi:i<l.length) {off:Nat} {v:AV} {p r:List AV} (he:enc l[i]=p++(v::r)) (hp:p.length=off) (k:IntKind):(XOp.ldx t w off).run P [a3_ enc w l,.int k (i:Int)]=some v:=by
 obtain ⟨a,b,e1,e2,_⟩:=yM_ hw l hi;obtain ⟨x0,l',rfl⟩:∃x l',l=x::l':=by cases l with|nil=>simp at hi|cons x l'=>exact ⟨x,l',rfl⟩
 show bl_ P (rM_ (bi_ enc (x0::l'))) t (.ptr 0 (i*w+off))=_;unfold bl_;simp only [ht,ha];have hg:(rM_ (bi_ enc (x0::l'))).get 0=some (.cells (bi_ enc (x0::l'))):=rfl;unfold aT_;simp only [hg];have hd:ai_ (i*w+off) (bi_ enc (x0::l'))=v::(r++b):=by rw [aC_,e1,he,←e2,←hp];rw [show a++(p++v::r++b)=(a++p)++(v::(r++b)) by simp [List.append_assoc]];rw [←List.length_append,List.drop_left]
 rw [hd];rfl
theorem run_ldxN {d:TypeDesc} (ht:P.underlying t=some d) (ha:lN_ d=true) (hinf:P.info? t=some ti) (hs:ti.size=w) (hw:∀a,(enc a).length=w) {l:List α} {i:Nat} (hi:i<l.length) (k:IntKind):(XOp.ldx t w 0).run P [a3_ enc w l,.int k (i:Int)]=some (.agg (enc l[i])):=by
 obtain ⟨a,b,e1,e2,_⟩:=yM_ hw l hi;obtain ⟨x0,l',rfl⟩:∃x l',l=x::l':=by cases l with|nil=>simp at hi|cons x l'=>exact ⟨x,l',rfl⟩
 show bl_ P (rM_ (bi_ enc (x0::l'))) t (.ptr 0 (i*w+0))=_;unfold bl_;simp only [ht,ha,hinf];have hg:(rM_ (bi_ enc (x0::l'))).get 0=some (.cells (bi_ enc (x0::l'))):=rfl;unfold aT_;simp only [hg];have hd:ai_ (i*w+0) (bi_ enc (x0::l'))=enc (x0::l')[i]++b:=by rw [aC_,e1,Nat.add_zero,←e2,List.drop_left]
 have hl:ti.size=(enc (x0::l')[i]).length:=by rw [hs,hw]
 rw [hd,hl,dv_]
end
end Go.Sx
