/-
  The document's whole numbers.
-/
import Derived.Test.YtelnbodnjmldeaaGreatV4
import Derived.Test.YtelnbodnjmldeaaGreatFA
import Derived.WalkKit
import Derived.ProofKit
import Derived.Laws.Externs
import Derived.Lib.Hide
set_option maxRecDepth 100000
set_option linter.unusedVariables false
set_option linter.unusedSimpArgs false
namespace Go.Proofs.YtelnbodnjmldeaaGreat.vars
open Go Go.Sx
def AX_:VC:=⟨⟨[],[]⟩,[],[],0,true,[]⟩
def Aj_:VT:=.ite 64 (.done (J 1))<|.done (J 0)
def zm_:VC:=⟨⟨[],[]⟩,[(171,[none])],[],0,true,[]⟩
def yS_:VT:=Li Qb [64,J 0] 65<|.call 171 [65] 66 [none]<|.done (66)
def zn_:VC:=⟨⟨[],[]⟩,[(171,[none])],[],0,true,[]⟩
def yT_:VT:=Li Zh [64,J 65536] 65<|It Z5 [65,J 0] 66 (Li Zu [65,J 65536] 67<|It Qu [67,J 32768] 68 (Li Zf [67,J 65536] 69<|.done (69))<|.done (67))<|It Qu [65,J 32768] 67 (Li Zf [65,J 65536] 68<|.done (68))<|.done (65)
def zo_:VC:=⟨⟨[],[]⟩,[(171,[none])],[],0,true,[]⟩
def yU_:VT:=Li Zh [64,J 4294967296] 65<|It Z5 [65,J 0] 66 (Li Zu [65,J 4294967296] 67<|It Qu [67,J 2147483648] 68 (Li Zf [67,J 4294967296] 69<|.done (69))<|.done (67))<|It Qu [65,J 2147483648] 67 (Li Zf [65,J 4294967296] 68<|.done (68))<|.done (65)
def zp_:VC:=⟨⟨[],[]⟩,[(171,[none])],[],0,true,[]⟩
def yV_:VT:=.done (64)
def zq_:VC:=⟨⟨[],[]⟩,[(171,[none])],[],0,true,[]⟩
def yW_:VT:=.done (J 0)
theorem Bm_ (b:Bool):jv_ Tryz.prog 171 [.bool b] (.int .i64 (tI b)):=by refine t1_ (sh:=[none]) (ls:=[.bool b]) (c:=AX_) (n:=300) (t:=Aj_) mo ov rfl rfl rfl (λY _=>vv_ _) rfl (by kernel_rfl) λY hf hg=>?_;unfold Aj_;cases b;exact u9_ (t:=false) rfl (λh=>by cases h) (λh=>ux_ rfl);exact u9_ (t:=true) rfl (λh=>ux_ rfl) (λh=>by cases h)
def vw_ (n x:Int):Int:=if x.tmod n<0 then (if n/2<=x.tmod n+n then x.tmod n+n-n else x.tmod n+n)else (if n/2<=x.tmod n then x.tmod n-n else x.tmod n)
theorem vH_ (x n:Int) (hn:0<n): -n<x.tmod n/\x.tmod n<n:=by refine ⟨?_,Int.tmod_lt_of_pos x hn⟩;have:=Int.tmod_lt_of_pos (-x) hn;rw [Int.neg_tmod]at this;omega
theorem xb_ (x n:Int) (hn:0<n):x.tmod n=x%n\/(x.tmod n=x%n-n/\x%n≠0):=by rw [Int.tmod_eq_emod];split;left;omega;rename_i h;right;have h2:¬n ∣ x:=λhd=>h (.inr hd);have:x%n≠0:=λe=>h2 (Int.dvd_of_emod_eq_zero e);omega
theorem yy_ (x:Int):vw_ 65536 x=IntKind.i16.wrap x:=by have h:=xb_ x 65536 (by omega);have hb:=vH_ x 65536 (by omega);simp only [IntKind.wrap,IntKind.bits,IntKind.signed,vw_];simp;generalize x.tmod 65536=r at*;omega
theorem yz_ (x:Int):vw_ 4294967296 x=IntKind.i32.wrap x:=by have h:=xb_ x 4294967296 (by omega);have hb:=vH_ x 4294967296 (by omega);simp only [IntKind.wrap,IntKind.bits,IntKind.signed,vw_];simp;generalize x.tmod 4294967296=r at*;omega
theorem zV_ (x:Int):jv_ Tryz.prog 130 [.int .i64 1,.int .i64 x] (.int .i64 (wK_ 1 x)):=by refine uS_ (args':=[.int .i64 1,.sym 64]) (ls:=[.int .i64 x]) (c:=zm_) (n:=300) (t:=yS_) mo ov rfl rfl rfl rfl (λY _=>rfl) (λY _=>vv_ _) rfl (by kernel_rfl) λY hf hg=>?_;unfold yS_;refine VOK_lt (run_neq ..) rfl (uw_ (Bm_ _) rfl rfl (ux_ ?_));by_cases hi:x=0<;>simp [hi,wK_,tI]<;>rfl
theorem zY_ (x:Int):jv_ Tryz.prog 130 [.int .i64 4,.int .i64 x] (.int .i64 x):=by refine uS_ (args':=[.int .i64 4,.sym 64]) (ls:=[.int .i64 x]) (c:=zp_) (n:=300) (t:=yV_) mo ov rfl rfl rfl rfl (λY _=>rfl) (λY _=>vv_ _) rfl (by kernel_rfl) λY hf hg=>?_;unfold yV_;exact ux_ rfl
theorem zZ_ (x:Int):jv_ Tryz.prog 130 [.int .i64 5,.int .i64 x] (.int .i64 0):=by refine uS_ (args':=[.int .i64 5,.sym 64]) (ls:=[.int .i64 x]) (c:=zq_) (n:=300) (t:=yW_) mo ov rfl rfl rfl rfl (λY _=>rfl) (λY _=>vv_ _) rfl (by kernel_rfl) λY hf hg=>?_;unfold yW_;exact ux_ rfl
theorem zW_ (x:Int):jv_ Tryz.prog 130 [.int .i64 2,.int .i64 x] (.int .i64 (vw_ 65536 x)):=by
 have hb:=vH_ x 65536 (by omega);refine uS_ (args':=[.int .i64 2,.sym 64]) (ls:=[.int .i64 x]) (c:=zn_) (n:=300) (t:=yT_) mo ov rfl rfl rfl rfl (λY _=>rfl) (λY _=>vv_ _) rfl (by kernel_rfl) λY hf hg=>?_;unfold yT_;have hr:=uY_ (P:=Tryz.prog) (k:=.i64) (x:=x) (c:=65536) (by omega) 2 false false;unfold vw_;generalize x.tmod 65536=r at*;refine VOK_lt hr rfl ?_;repeat' (first
  |refine VOK_lt (run_lss ..) rfl ?_
  |refine VOK_lt (run_geq ..) rfl ?_
  |refine VOK_lt (run_add ..) rfl ?_
  |refine VOK_lt (run_sub ..) rfl ?_
  |refine u9_ rfl (λh=>?_) (λh=>?_)
  |refine ux_ ?_)
 all_goals (simp only [decide_eq_true_eq,decide_eq_false_iff_not]at *)
 all_goals (try rw [vG_ (x:=r+65536) (by omega) (by omega)]at *)
 all_goals
  (show AV.int .i64 _=AV.int .i64 _
   congr 1
   repeat' split
   all_goals first
    |(exfalso;omega)
    |rfl
    |(rw [vG_ (x:=r+65536-65536) (by omega) (by omega)])
    |(rw [vG_ (x:=r-65536) (by omega) (by omega)])
    |omega)
theorem zX_ (x:Int):jv_ Tryz.prog 130 [.int .i64 3,.int .i64 x] (.int .i64 (vw_ 4294967296 x)):=by
 have hb:=vH_ x 4294967296 (by omega);refine uS_ (args':=[.int .i64 3,.sym 64]) (ls:=[.int .i64 x]) (c:=zo_) (n:=300) (t:=yU_) mo ov rfl rfl rfl rfl (λY _=>rfl) (λY _=>vv_ _) rfl (by kernel_rfl) λY hf hg=>?_;unfold yU_;have hr:=uY_ (P:=Tryz.prog) (k:=.i64) (x:=x) (c:=4294967296) (by omega) 2 false false;unfold vw_;generalize x.tmod 4294967296=r at*;refine VOK_lt hr rfl ?_;repeat' (first
  |refine VOK_lt (run_lss ..) rfl ?_
  |refine VOK_lt (run_geq ..) rfl ?_
  |refine VOK_lt (run_add ..) rfl ?_
  |refine VOK_lt (run_sub ..) rfl ?_
  |refine u9_ rfl (λh=>?_) (λh=>?_)
  |refine ux_ ?_)
 all_goals (simp only [decide_eq_true_eq,decide_eq_false_iff_not]at *)
 all_goals (try rw [vG_ (x:=r+4294967296) (by omega) (by omega)]at *)
 all_goals
  (show AV.int .i64 _=AV.int .i64 _
   congr 1
   repeat' split
   all_goals first
    |(exfalso;omega)
    |rfl
    |(rw [vG_ (x:=r+4294967296-4294967296) (by omega) (by omega)])
    |(rw [vG_ (x:=r-4294967296) (by omega) (by omega)])
    |omega)
theorem Bj_ {k:Int} (h:1<=k/\k<=5) (x:Int):jv_ Tryz.prog 130 [.int .i64 k,.int .i64 x] (.int .i64 (wK_ k x)):=by rcases (by omega:k=1\/k=2\/k=3\/k=4\/k=5)with rfl|rfl|rfl|rfl|rfl;exact zV_ x;have:=zW_ x;rw [yy_]at this;exact this;have:=zX_ x;rw [yz_]at this;exact this;exact zY_ x;exact zZ_ x
end Go.Proofs.YtelnbodnjmldeaaGreat.vars
set_option maxRecDepth 100000
set_option linter.unusedVariables false
set_option linter.unusedSimpArgs false
namespace Go.Proofs.YtelnbodnjmldeaaGreat.vars
open Go.Sx Go
theorem xY_ (t:TypeId) (cx cy:Bool) (a b:Option Nat):(XOp.bin .neq t cx cy).run Tryz.prog [fv a,fv b]=some (.bool (vB_ a b !=some .eq)):=by rw [uX_];rfl
theorem Bb_ (f:Option Nat):okL [fv f]=true:=by cases f<;>rfl
theorem wY_ (f:Option Nat):(vB_ f f !=some .eq)=vx_ f:=by show (!(vB_ f f==some .eq))=_;rw [ur_,Bool.not_not]
def y7_:List Int:=[2,1,2,1,2,3,5,4,2,2,2,2,1,4,1,4,1,2,1,1,1]
def zi_ (mem:List FV):Prop:=mem.map FV.k=y7_/\∀v∈mem,TV v
def cell (mem:List FV) (n:Int):FV:=mem.getD n.toNat FV.z
section
variable {mem:List FV}
end
def D_ (l:List FV):AV:=a3_ oH_ 3 l
theorem wD_ (l:List FV):okC (D_ l)=true:=by
 unfold D_;cases l with
 |nil=>rfl
 |cons a r=>simp only [a3_,okC];exact kO_ okV (a::r)
theorem vi_ (l:List FV):(XOp.len 34).run Tryz.prog [D_ l]=some (.int .i64 (l.length:Int)):=t6_ Tryz.underlying34 l
theorem vX_ (l:List FV) {i:Nat} (h:i<l.length):(XOp.iaddr 34).run Tryz.prog [D_ l,.int .i64 (i:Int)]=some (.vptr (bA_ oH_ (l.drop i))):=
 run_iaddr_sl (e:=62) (ti:=(Tryz.prog.info? 62).get!) Tryz.underlying34 (by kernel_rfl) (by kernel_rfl) yi_ h .i64
theorem uH_ (l:List FV) {i:Nat} (h:i<l.length):(XOp.load 62).run Tryz.prog [.vptr (bA_ oH_ (l.drop i))]=some (.agg (oH_ l[i])):=
 run_load_agg (ti:=(Tryz.prog.info? 62).get!) Tryz.underlying62 rfl (by kernel_rfl) (by kernel_rfl) yi_ h
end Go.Proofs.YtelnbodnjmldeaaGreat.vars
set_option linter.unusedVariables false
set_option linter.unusedSimpArgs false
namespace Go.Sx
section
variable {P:Program} {t:TypeId} {ti:TypeInfo} {α:Type} {enc:α->List AV} {w:Nat}
theorem xZ_ {d:TypeDesc} (ht:P.underlying t=some d) (ha:lB_ d=true) (hinf:P.info? t=some ti) (hs:ti.size=w) (hw:∀a,(enc a).length=w) {l:List α} {i:Nat} (hi:i<l.length) (k:IntKind):(XOp.ldx t w 0).run P [a3_ enc w l,.int k (i:Int)]=some (.agg (enc l[i])):=by
 obtain ⟨a,b,e1,e2,_⟩:=wg_ hw l hi;obtain ⟨x0,l',rfl⟩:∃x l',l=x::l':=by cases l with|nil=>simp at hi|cons x l'=>exact ⟨x,l',rfl⟩
 show bi_ P (ry_ (bA_ enc (x0::l'))) t (.ptr 0 (i*w+0))=_;unfold bi_;simp only [ht,ha,hinf];have hg:(ry_ (bA_ enc (x0::l'))).get 0=some (.cells (bA_ enc (x0::l'))):=rfl;unfold aT_;simp only [hg];have hd:ah_ (i*w+0) (bA_ enc (x0::l'))=enc (x0::l')[i]++b:=by rw [aB_,e1,Nat.add_zero,←e2,List.drop_left]
 have hl:ti.size=(enc (x0::l')[i]).length:=by rw [hs,hw]
 rw [hd,hl,eT_]
end
end Go.Sx
