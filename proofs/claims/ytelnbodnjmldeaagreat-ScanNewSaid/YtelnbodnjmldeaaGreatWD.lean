/-
  The document's whole numbers.
-/
import Derived.Test.YtelnbodnjmldeaaGreatV4
import Derived.Test.YtelnbodnjmldeaaGreatFA
import Derived.WalkKit
import Derived.ProofKit
import Derived.Laws.Externs
import Derived.Lib.Hide
set_option maxRecDepth 100000
set_option linter.unusedVariables false
set_option linter.unusedSimpArgs false
namespace Go.Proofs.YtelnbodnjmldeaaGreat.vars
open Go Go.Sx
def AW_:VC:=⟨⟨[],[]⟩,[],[],0,true,[]⟩
def Ah_:VT:=.ite 64 (.done (J 1))<|.done (J 0)
def zk_:VC:=⟨⟨[],[]⟩,[(171,[none])],[],0,true,[]⟩
def yQ_:VT:=Li Qc [64,J 0] 65<|.call 171 [65] 66 [none]<|.done (66)
def zl_:VC:=⟨⟨[],[]⟩,[(171,[none])],[],0,true,[]⟩
def yR_:VT:=Li Zl [64,J 65536] 65<|It Z8 [65,J 0] 66 (Li Zk [65,J 65536] 67<|It Qu [67,J 32768] 68 (Li Zh [67,J 65536] 69<|.done (69))<|.done (67))<|It Qu [65,J 32768] 67 (Li Zh [65,J 65536] 68<|.done (68))<|.done (65)
def zm_:VC:=⟨⟨[],[]⟩,[(171,[none])],[],0,true,[]⟩
def yS_:VT:=Li Zl [64,J 4294967296] 65<|It Z8 [65,J 0] 66 (Li Zk [65,J 4294967296] 67<|It Qu [67,J 2147483648] 68 (Li Zh [67,J 4294967296] 69<|.done (69))<|.done (67))<|It Qu [65,J 2147483648] 67 (Li Zh [65,J 4294967296] 68<|.done (68))<|.done (65)
def zn_:VC:=⟨⟨[],[]⟩,[(171,[none])],[],0,true,[]⟩
def yT_:VT:=.done (64)
def zo_:VC:=⟨⟨[],[]⟩,[(171,[none])],[],0,true,[]⟩
def yU_:VT:=.done (J 0)
theorem Bm_ (b:Bool):jw_ Tryz.prog 171 [.bool b] (.int .i64 (tI b)):=by refine t0_ (sh:=[none]) (ls:=[.bool b]) (c:=AW_) (n:=300) (t:=Ah_) mo ov rfl rfl rfl (λY _=>vu_ _) rfl (by kernel_rfl) λY hf hg=>?_;unfold Ah_;cases b;exact u8_ (t:=false) rfl (λh=>by cases h) (λh=>uw_ rfl);exact u8_ (t:=true) rfl (λh=>uw_ rfl) (λh=>by cases h)
def vx_ (n x:Int):Int:=if x.tmod n<0 then (if n/2<=x.tmod n+n then x.tmod n+n-n else x.tmod n+n)else (if n/2<=x.tmod n then x.tmod n-n else x.tmod n)
theorem vH_ (x n:Int) (hn:0<n): -n<x.tmod n/\x.tmod n<n:=by refine ⟨?_,Int.tmod_lt_of_pos x hn⟩;have:=Int.tmod_lt_of_pos (-x) hn;rw [Int.neg_tmod]at this;omega
theorem w9_ (x n:Int) (hn:0<n):x.tmod n=x%n\/(x.tmod n=x%n-n/\x%n≠0):=by rw [Int.tmod_eq_emod];split;left;omega;rename_i h;right;have h2:¬n ∣ x:=λhd=>h (.inr hd);have:x%n≠0:=λe=>h2 (Int.dvd_of_emod_eq_zero e);omega
theorem yw_ (x:Int):vx_ 65536 x=IntKind.i16.wrap x:=by have h:=w9_ x 65536 (by omega);have hb:=vH_ x 65536 (by omega);simp only [IntKind.wrap,IntKind.bits,IntKind.signed,vx_];simp;generalize x.tmod 65536=r at*;omega
theorem yx_ (x:Int):vx_ 4294967296 x=IntKind.i32.wrap x:=by have h:=w9_ x 4294967296 (by omega);have hb:=vH_ x 4294967296 (by omega);simp only [IntKind.wrap,IntKind.bits,IntKind.signed,vx_];simp;generalize x.tmod 4294967296=r at*;omega
theorem zT_ (x:Int):jw_ Tryz.prog 130 [.int .i64 1,.int .i64 x] (.int .i64 (wI_ 1 x)):=by refine uR_ (args':=[.int .i64 1,.sym 64]) (ls:=[.int .i64 x]) (c:=zk_) (n:=300) (t:=yQ_) mo ov rfl rfl rfl rfl (λY _=>rfl) (λY _=>vu_ _) rfl (by kernel_rfl) λY hf hg=>?_;unfold yQ_;refine VOK_lt (run_neq ..) rfl (uv_ (Bm_ _) rfl rfl (uw_ ?_));by_cases hi:x=0<;>simp [hi,wI_,tI]<;>rfl
theorem zW_ (x:Int):jw_ Tryz.prog 130 [.int .i64 4,.int .i64 x] (.int .i64 x):=by refine uR_ (args':=[.int .i64 4,.sym 64]) (ls:=[.int .i64 x]) (c:=zn_) (n:=300) (t:=yT_) mo ov rfl rfl rfl rfl (λY _=>rfl) (λY _=>vu_ _) rfl (by kernel_rfl) λY hf hg=>?_;unfold yT_;exact uw_ rfl
theorem zX_ (x:Int):jw_ Tryz.prog 130 [.int .i64 5,.int .i64 x] (.int .i64 0):=by refine uR_ (args':=[.int .i64 5,.sym 64]) (ls:=[.int .i64 x]) (c:=zo_) (n:=300) (t:=yU_) mo ov rfl rfl rfl rfl (λY _=>rfl) (λY _=>vu_ _) rfl (by kernel_rfl) λY hf hg=>?_;unfold yU_;exact uw_ rfl
theorem zU_ (x:Int):jw_ Tryz.prog 130 [.int .i64 2,.int .i64 x] (.int .i64 (vx_ 65536 x)):=by
 have hb:=vH_ x 65536 (by omega);refine uR_ (args':=[.int .i64 2,.sym 64]) (ls:=[.int .i64 x]) (c:=zl_) (n:=300) (t:=yR_) mo ov rfl rfl rfl rfl (λY _=>rfl) (λY _=>vu_ _) rfl (by kernel_rfl) λY hf hg=>?_;unfold yR_;have hr:=uX_ (P:=Tryz.prog) (k:=.i64) (x:=x) (c:=65536) (by omega) 2 false false;unfold vx_;generalize x.tmod 65536=r at*;refine VOK_lt hr rfl ?_;repeat' (first
  |refine VOK_lt (run_lss ..) rfl ?_
  |refine VOK_lt (run_geq ..) rfl ?_
  |refine VOK_lt (run_add ..) rfl ?_
  |refine VOK_lt (run_sub ..) rfl ?_
  |refine u8_ rfl (λh=>?_) (λh=>?_)
  |refine uw_ ?_)
 all_goals (simp only [decide_eq_true_eq,decide_eq_false_iff_not]at *)
 all_goals (try rw [vE_ (x:=r+65536) (by omega) (by omega)]at *)
 all_goals
  (show AV.int .i64 _=AV.int .i64 _
   congr 1
   repeat' split
   all_goals first
    |(exfalso;omega)
    |rfl
    |(rw [vE_ (x:=r+65536-65536) (by omega) (by omega)])
    |(rw [vE_ (x:=r-65536) (by omega) (by omega)])
    |omega)
theorem zV_ (x:Int):jw_ Tryz.prog 130 [.int .i64 3,.int .i64 x] (.int .i64 (vx_ 4294967296 x)):=by
 have hb:=vH_ x 4294967296 (by omega);refine uR_ (args':=[.int .i64 3,.sym 64]) (ls:=[.int .i64 x]) (c:=zm_) (n:=300) (t:=yS_) mo ov rfl rfl rfl rfl (λY _=>rfl) (λY _=>vu_ _) rfl (by kernel_rfl) λY hf hg=>?_;unfold yS_;have hr:=uX_ (P:=Tryz.prog) (k:=.i64) (x:=x) (c:=4294967296) (by omega) 2 false false;unfold vx_;generalize x.tmod 4294967296=r at*;refine VOK_lt hr rfl ?_;repeat' (first
  |refine VOK_lt (run_lss ..) rfl ?_
  |refine VOK_lt (run_geq ..) rfl ?_
  |refine VOK_lt (run_add ..) rfl ?_
  |refine VOK_lt (run_sub ..) rfl ?_
  |refine u8_ rfl (λh=>?_) (λh=>?_)
  |refine uw_ ?_)
 all_goals (simp only [decide_eq_true_eq,decide_eq_false_iff_not]at *)
 all_goals (try rw [vE_ (x:=r+4294967296) (by omega) (by omega)]at *)
 all_goals
  (show AV.int .i64 _=AV.int .i64 _
   congr 1
   repeat' split
   all_goals first
    |(exfalso;omega)
    |rfl
    |(rw [vE_ (x:=r+4294967296-4294967296) (by omega) (by omega)])
    |(rw [vE_ (x:=r-4294967296) (by omega) (by omega)])
    |omega)
theorem Bj_ {k:Int} (h:1<=k/\k<=5) (x:Int):jw_ Tryz.prog 130 [.int .i64 k,.int .i64 x] (.int .i64 (wI_ k x)):=by rcases (by omega:k=1\/k=2\/k=3\/k=4\/k=5)with rfl|rfl|rfl|rfl|rfl;exact zT_ x;have:=zU_ x;rw [yw_]at this;exact this;have:=zV_ x;rw [yx_]at this;exact this;exact zW_ x;exact zX_ x
end Go.Proofs.YtelnbodnjmldeaaGreat.vars
set_option maxRecDepth 100000
set_option linter.unusedVariables false
set_option linter.unusedSimpArgs false
namespace Go.Proofs.YtelnbodnjmldeaaGreat.vars
open Go.Sx Go
theorem xW_ (t:TypeId) (cx cy:Bool) (a b:Option Nat):(XOp.bin .neq t cx cy).run Tryz.prog [fv a,fv b]=some (.bool (ordF a b !=some .eq)):=by rw [uW_];rfl
theorem Bb_ (f:Option Nat):okL [fv f]=true:=by cases f<;>rfl
theorem wW_ (f:Option Nat):(ordF f f !=some .eq)=vw_ f:=by show (!(ordF f f==some .eq))=_;rw [uq_,Bool.not_not]
def y5_:List Int:=[2,1,2,1,2,3,5,4,2,2,2,2,1,4,1,4,1,2,1,1,1]
def zg_ (mem:List FV):Prop:=mem.map FV.k=y5_/\∀v∈mem,TV v
def cell (mem:List FV) (n:Int):FV:=mem.getD n.toNat FV.z
section
variable {mem:List FV}
end
def D_ (l:List FV):AV:=a3_ oH_ 3 l
theorem wB_ (l:List FV):okC (D_ l)=true:=by
 unfold D_;cases l with
 |nil=>rfl
 |cons a r=>simp only [a3_,okC];exact kP_ okV (a::r)
theorem vl_ (l:List FV):(XOp.len 34).run Tryz.prog [D_ l]=some (.int .i64 (l.length:Int)):=t5_ Tryz.underlying34 l
theorem vV_ (l:List FV) {i:Nat} (h:i<l.length):(XOp.iaddr 34).run Tryz.prog [D_ l,.int .i64 (i:Int)]=some (.vptr (bA_ oH_ (l.drop i))):=
 run_iaddr_sl (e:=62) (ti:=(Tryz.prog.info? 62).get!) Tryz.underlying34 (by kernel_rfl) (by kernel_rfl) yg_ h .i64
theorem uG_ (l:List FV) {i:Nat} (h:i<l.length):(XOp.load 62).run Tryz.prog [.vptr (bA_ oH_ (l.drop i))]=some (.agg (oH_ l[i])):=
 run_load_agg (ti:=(Tryz.prog.info? 62).get!) Tryz.underlying62 rfl (by kernel_rfl) (by kernel_rfl) yg_ h
end Go.Proofs.YtelnbodnjmldeaaGreat.vars
set_option linter.unusedVariables false
set_option linter.unusedSimpArgs false
namespace Go.Sx
section
variable {P:Program} {t:TypeId} {ti:TypeInfo} {α:Type} {enc:α->List AV} {w:Nat}
theorem xX_ {d:TypeDesc} (ht:P.underlying t=some d) (ha:lC_ d=true) (hinf:P.info? t=some ti) (hs:ti.size=w) (hw:∀a,(enc a).length=w) {l:List α} {i:Nat} (hi:i<l.length) (k:IntKind):(XOp.ldx t w 0).run P [a3_ enc w l,.int k (i:Int)]=some (.agg (enc l[i])):=by
 obtain ⟨a,b,e1,e2,_⟩:=we_ hw l hi;obtain ⟨x0,l',rfl⟩:∃x l',l=x::l':=by cases l with|nil=>simp at hi|cons x l'=>exact ⟨x,l',rfl⟩
 show bi_ P (ry_ (bA_ enc (x0::l'))) t (.ptr 0 (i*w+0))=_;unfold bi_;simp only [ht,ha,hinf];have hg:(ry_ (bA_ enc (x0::l'))).get 0=some (.cells (bA_ enc (x0::l'))):=rfl;unfold aT_;simp only [hg];have hd:ah_ (i*w+0) (bA_ enc (x0::l'))=enc (x0::l')[i]++b:=by rw [aB_,e1,Nat.add_zero,←e2,List.drop_left]
 have hl:ti.size=(enc (x0::l')[i]).length:=by rw [hs,hw]
 rw [hd,hl,eT_]
end
end Go.Sx
