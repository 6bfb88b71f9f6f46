/-
  A symbol as a number, a number as a value: short names for trees.
-/
import Derived.Test.YtaamplmpnmegdaaGreatDoorSyQ
import Derived.Test.YtaamplmpnmegdaaGreatDoorRows
import Derived.KernelRfl
import Derived.Test.YtaamplmpnmegdaaGreatDoorSyE
namespace Go.Proofs.YtaamplmpnmegdaaGreatDoor.vars
open Go Go.Sx
instance symN (n:Nat):OfNat AV n:=⟨.sym n⟩
abbrev J (n:Int):AV:=.int .i64 n
abbrev K (o:XOp) (a:List AV) (i:Nat) (t:VT):VT:=.lt o a i none t
abbrev Q0:XOp:=.bin .neq 30 false true
abbrev Li (o:XOp) (a:List AV) (n:Nat) (t:VT):VT:=.lt o a n none t
abbrev It (o:XOp) (a:List AV) (n:Nat) (A B:VT):VT:=.lt o a n none (.ite n A B)
abbrev Iq (i:Nat) (k:Int) (n:Nat) (A B:VT):VT:=.lt Q0 [.sym i,J k] n none (.ite n A B)
abbrev Dn (l:List AV):VT:=.done (.tup (J 0::l))
abbrev Cf (f:FuncId) (t:FT) (h:List AV) (n k:Nat) (b:VT):VT:=.callF f t h n (.cons k b .nil)
abbrev Q1:XOp:=.bin .add 3 false true
abbrev Q3:XOp:=.un .not
abbrev Q4:XOp:=.iaddr 22
abbrev Q5:XOp:=.iaddr 48
abbrev Q6:XOp:=.load 5
abbrev Q7:XOp:=.bin .eql 2 false false
abbrev Q9:XOp:=.bin .neq 3 false true
abbrev Qa:XOp:=.bin .lss 3 false false
abbrev Qb:XOp:=.conv 5 2
abbrev Qc:XOp:=.bin .add 2 false false
abbrev Qe:XOp:=.bin .gtr 3 false true
abbrev Qi:XOp:=.bin .neq 2 false false
end Go.Proofs.YtaamplmpnmegdaaGreatDoor.vars
set_option linter.unusedVariables false
namespace Go.Proofs.YtaamplmpnmegdaaGreatDoor.vars
open Go Go.Sx
def VARS2:AV:=.vsl 7 10 [.str [97],.int .i64 1,.int .i64 2,.int .i64 0,.int .i64 2,.int .i64 0,.flt .f64 0,.int .i64 0,.int .i64 0,.flt .f64 0,.str [98],.int .i64 1,.int .i64 1,.int .i64 0,.int .i64 1,.int .i64 0,.flt .f64 0,.int .i64 0,.int .i64 0,.flt .f64 0,.str [111],.int .i64 2,.int .i64 2,.int .i64 0,.int .i64 2,.int .i64 1,.flt .f64 0,.int .i64 2,.int .i64 9,.flt .f64 0,.str [110],.int .i64 3,.int .i64 2,.int .i64 0,.int .i64 2,.int .i64 0,.flt .f64 0,.int .i64 0,.int .i64 0,.flt .f64 0,.str [120],.int .i64 3,.int .i64 2,.int .i64 0,.int .i64 2,.int .i64 0,.flt .f64 0,.int .i64 0,.int .i64 0,.flt .f64 0,.str [114],.int .i64 3,.int .i64 5,.int .i64 0,.int .i64 5,.int .i64 0,.flt .f64 0,.int .i64 0,.int .i64 0,.flt .f64 0,.str [107],.int .i64 3,.int .i64 2,.int .i64 3,.int .i64 2,.int .i64 0,.flt .f64 0,.int .i64 0,.int .i64 0,.flt .f64 0]
def BODY2:AV:=.vsl 4 27 [.int .i64 1,.int .i64 2,.int .i64 2,.str [110],.str [],.int .i64 3,.int .i64 0,.int .i64 0,.int .i64 0,.flt .f64 0,.nsl,.int .i64 4,.int .i64 2,.str [],.str [],.int .i64 0,.int .i64 0,.int .i64 0,.int .i64 0,.flt .f64 0,.vsl 2 10 [.int .i64 2,.int .i64 2,.str [110],.str [],.int .i64 3,.int .i64 0,.int .i64 0,.int .i64 0,.flt .f64 0,.nsl,.int .i64 1,.int .i64 2,.str [],.str [],.int .i64 0,.int .i64 0,.int .i64 2,.int .i64 1,.flt .f64 0,.nsl],.nsl,.nsl,.str [],.int .i64 0,.int .i64 0,.nsl,.int .i64 1,.int .i64 2,.int .i64 2,.str [111],.str [],.int .i64 2,.int .i64 0,.int .i64 0,.int .i64 0,.flt .f64 0,.nsl,.int .i64 4,.int .i64 2,.str [],.str [],.int .i64 0,.int .i64 0,.int .i64 0,.int .i64 0,.flt .f64 0,.vsl 2 10 [.int .i64 2,.int .i64 2,.str [120],.str [],.int .i64 4,.int .i64 0,.int .i64 0,.int .i64 0,.flt .f64 0,.nsl,.int .i64 2,.int .i64 2,.str [97],.str [],.int .i64 0,.int .i64 0,.int .i64 0,.int .i64 0,.flt .f64 0,.nsl],.nsl,.nsl,.str [],.int .i64 0,.int .i64 0,.nsl,.int .i64 2,.int .i64 0,.int .i64 0,.str [],.str [],.int .i64 0,.int .i64 0,.int .i64 0,.int .i64 0,.flt .f64 0,.nsl,.int .i64 2,.int .i64 1,.str [98],.str [],.int .i64 1,.int .i64 0,.int .i64 0,.int .i64 0,.flt .f64 0,.nsl,.vsl 1 27 [.int .i64 1,.int .i64 3,.int .i64 2,.str [107],.str [],.int .i64 6,.int .i64 3,.int .i64 0,.int .i64 0,.flt .f64 0,.vsl 1 10 [.int .i64 2,.int .i64 2,.str [120],.str [],.int .i64 4,.int .i64 0,.int .i64 0,.int .i64 0,.flt .f64 0,.nsl],.int .i64 2,.int .i64 2,.str [97],.str [],.int .i64 0,.int .i64 0,.int .i64 0,.int .i64 0,.flt .f64 0,.nsl,.nsl,.nsl,.str [],.int .i64 0,.int .i64 0,.nsl],.nsl,.str [],.int .i64 0,.int .i64 0,.nsl,.int .i64 1,.int .i64 2,.int .i64 5,.str [114],.str [],.int .i64 5,.int .i64 0,.int .i64 0,.int .i64 0,.flt .f64 0,.nsl,.int .i64 4,.int .i64 5,.str [],.str [],.int .i64 0,.int .i64 0,.int .i64 0,.int .i64 0,.flt .f64 0,.vsl 2 10 [.int .i64 2,.int .i64 5,.str [114],.str [],.int .i64 5,.int .i64 0,.int .i64 0,.int .i64 0,.flt .f64 0,.nsl,.int .i64 1,.int .i64 5,.str [],.str [],.int .i64 0,.int .i64 0,.int .i64 5,.int .i64 0,.flt .f64 4602678819172646912,.nsl],.nsl,.nsl,.str [],.int .i64 0,.int .i64 0,.nsl]
def CODE2:AV:=.vsl 18 7 [.int .i64 2,.int .i64 0,.int .i64 3,.int .i64 0,.int .i64 0,.int .i64 0,.flt .f64 0,.int .i64 1,.int .i64 2,.int .i64 0,.int .i64 0,.int .i64 2,.int .i64 1,.flt .f64 0,.int .i64 4,.int .i64 2,.int .i64 0,.int .i64 0,.int .i64 0,.int .i64 0,.flt .f64 0,.int .i64 18,.int .i64 0,.int .i64 3,.int .i64 0,.int .i64 0,.int .i64 0,.flt .f64 0,.int .i64 2,.int .i64 0,.int .i64 4,.int .i64 0,.int .i64 0,.int .i64 0,.flt .f64 0,.int .i64 2,.int .i64 0,.int .i64 0,.int .i64 0,.int .i64 0,.int .i64 0,.flt .f64 0,.int .i64 4,.int .i64 2,.int .i64 0,.int .i64 0,.int .i64 0,.int .i64 0,.flt .f64 0,.int .i64 18,.int .i64 0,.int .i64 2,.int .i64 0,.int .i64 0,.int .i64 0,.flt .f64 0,.int .i64 2,.int .i64 0,.int .i64 1,.int .i64 0,.int .i64 0,.int .i64 0,.flt .f64 0,.int .i64 21,.int .i64 0,.int .i64 13,.int .i64 0,.int .i64 0,.int .i64 0,.flt .f64 0,.int .i64 2,.int .i64 0,.int .i64 0,.int .i64 0,.int .i64 0,.int .i64 0,.flt .f64 0,.int .i64 2,.int .i64 0,.int .i64 4,.int .i64 0,.int .i64 0,.int .i64 0,.flt .f64 0,.int .i64 19,.int .i64 0,.int .i64 6,.int .i64 3,.int .i64 0,.int .i64 0,.flt .f64 0,.int .i64 2,.int .i64 0,.int .i64 5,.int .i64 0,.int .i64 0,.int .i64 0,.flt .f64 0,.int .i64 1,.int .i64 5,.int .i64 0,.int .i64 0,.int .i64 5,.int .i64 0,.flt .f64 4602678819172646912,.int .i64 4,.int .i64 5,.int .i64 0,.int .i64 0,.int .i64 0,.int .i64 0,.flt .f64 0,.int .i64 18,.int .i64 0,.int .i64 5,.int .i64 0,.int .i64 0,.int .i64 0,.flt .f64 0,.int .i64 23,.int .i64 0,.int .i64 0,.int .i64 0,.int .i64 0,.int .i64 0,.flt .f64 0]
def SESS0:AV:=.vsl 4 8 [.bool false,.int .i64 0,.nsl,.bool false,.nsl,.nsl,.nsl,.int .i64 0,.bool false,.int .i64 0,.nsl,.bool false,.nsl,.nsl,.nsl,.int .i64 0,.bool false,.int .i64 0,.nsl,.bool false,.nsl,.nsl,.nsl,.int .i64 0,.bool false,.int .i64 0,.nsl,.bool false,.nsl,.nsl,.nsl,.int .i64 0]
def cls (a o n r:AV):List AV:=[.int .i64 2,a,.flt .f64 0,.int .i64 1,.int .i64 0,.flt .f64 0,.int .i64 2,o,.flt .f64 0,.int .i64 2,n,.flt .f64 0,.int .i64 2,.int .i64 0,.flt .f64 0,.int .i64 5,.int .i64 0,r,.int .i64 2,.int .i64 0,.flt .f64 0,.int .i64 2,.int .i64 0,.flt .f64 0,.int .i64 2,.int .i64 0,.flt .f64 0]
def stepM:AV:=.agg [.int .i64 1,.int .i64 0,.int .i64 0,.nsl,.int .i64 0,.int .i64 0,.flt .f64 0]
def j_ (on seen:AV):List AV:=[on,seen,.nsl,.bool false,.nsl,.nsl,.nsl,.int .i64 0]
def l_ (a b c d:AV×AV):AV:=.vsl 4 8 (j_ a.1 a.2++(j_ b.1 b.2++(j_ c.1 c.2++j_ d.1 d.2)))
def UL (now:AV) (a b c d:AV×AV):List AV:=
 [VARS2,BODY2,VARS2,CODE2,.int .i64 50,.vsl 9 3 (cls (.int .i64 0) (.int .i64 1) (.int .i64 0) (.flt .f64 0)),.int .i64 0,.nsl,.nsl,.int .i64 0,.int .i64 0,.bool true,.int .i64 0,.int .i64 0,.int .i64 0,now,l_ a b c d,.nsl,.vsl 9 3 (cls (.int .i64 0) (.int .i64 1) (.int .i64 0) (.flt .f64 0))]
def q_ (n:AV):AV:=.agg [.int .i64 6,.int .i64 0,n,.nsl,.int .i64 0,.int .i64 0,.flt .f64 0]
def b_ (k:AV):AV:=.agg [.int .i64 3,k,.int .i64 0,.nsl,.int .i64 0,.int .i64 0,.flt .f64 0]
end Go.Proofs.YtaamplmpnmegdaaGreatDoor.vars
set_option maxRecDepth 100000
set_option linter.unusedVariables false
set_option linter.unusedSimpArgs false
namespace Go.Proofs.YtaamplmpnmegdaaGreatDoor.vars
open Go Go.Sx
instance gI:Gl:=er_ 1 []
theorem mox:Tryz.prog.follows .mixedOrders=true:=by kernel_rfl
theorem ov:lq_ Tryz.prog:=uQ_ 1 _
abbrev jI (n:Int):AV:=.int .i64 n
def D0:AV:=.agg [.int .i64 0,.nsl]
def cD:VC:=⟨⟨[],[]⟩,[],[],0,true,[]⟩
end Go.Proofs.YtaamplmpnmegdaaGreatDoor.vars
set_option maxRecDepth 100000
set_option linter.unusedVariables false
set_option linter.unusedSimpArgs false
namespace Go.Proofs.YtaamplmpnmegdaaGreatDoor.vars
open Go Go.Sx
def pM_:VC:=⟨⟨[],[]⟩,[],[],0,true,[]⟩
def X_:VT:=
 (.ite 64
 (K (.bin .gtr 2 false false) [72,65] 73
 (.ite 73
 (K (.conv 2 193) [72] 74
 (K (.conv 2 193) [65] 75
 (K (.bin .sub 193 false false) [74,75] 76
 (K (.bin .gtr 193 false true) [76,.int .u64 60000] 77
 (.done (77))))))
 (.done (.bool false))))
 (.done (.bool false)))
structure US where
 now:Int
 a:Bool×Int
 b:Bool×Int
 c:Bool×Int
 d:Bool×Int
def a_ (x:US):List AV:=UL (jI x.now) (.bool x.a.1,jI x.a.2) (.bool x.b.1,jI x.b.2) (.bool x.c.1,jI x.c.2) (.bool x.d.1,jI x.d.2)
def gone (now:Int) (s:Bool×Int):Bool:=s.1&&decide (60000<now-s.2)
def k_ (g:Bool) (s:Bool×Int):Bool×Int:=match g with
 |true=>(false,0)
 |false=>s
theorem r_ {x:Int} (h1:0<=x) (h2:x<=1000000):IntKind.u64.wrap x=x:=by simp [IntKind.wrap,IntKind.bits,IntKind.signed];omega
theorem u_ (now:Int) (s:Bool×Int) (h0:0<=s.2) (h1:s.2<=now) (h2:now<=1000000):hR_ Tryz.prog 150 [.agg (j_ (.bool s.1) (jI s.2)),jI now] (.bool (gone now s)):=by obtain ⟨on,seen⟩:=s;have h0:0<=seen:=h0;have h1:seen<=now:=h1;refine tJ_ (sh:=[some 8,none]) (ls:=j_ (.bool on) (jI seen)++[jI now]) (c:=pM_) (n:=300) (t:=X_) mox ov rfl rfl rfl (λY _=>u4_ _) rfl (by kernel_rfl) λY hf hg=>?_;unfold X_;refine uK_ (t:=on) rfl (λe=>?_) (λe=>ud_ (by rw [e];rfl));subst e;refine uX_ (run_gtr ..) rfl (uK_ rfl (λh=>?_) (λh=>ud_ ?_));refine uX_ (r:=.int .u64 now) ((tk_ Tryz.underlying2 Tryz.underlying193 _).trans (by rw [r_ (by omega) h2])) rfl (uX_ (r:=.int .u64 seen) ((tk_ Tryz.underlying2 Tryz.underlying193 _).trans (by rw [r_ h0 (by omega)])) rfl (uX_ (r:=.int .u64 (now-seen)) ((run_sub ..).trans (by rw [r_ (by omega) (by omega)])) rfl (uX_ (run_gtr ..) rfl (ud_ rfl))));have h:¬seen<now:=of_decide_eq_false h;show AV.bool false=AV.bool (true&&decide (60000<now-seen));rw [show decide (60000<now-seen)=false from decide_eq_false (by omega)];rfl
def zz:AV×AV:=(.bool false,.int .i64 0)
def sa:AV×AV:=(.sym 65,.sym 66)
def sb:AV×AV:=(.sym 67,.sym 68)
def sc:AV×AV:=(.sym 69,.sym 70)
def sd:AV×AV:=(.sym 71,.sym 72)
def S_ (a b c d:AV×AV):VT:=.done (.tup [.agg (UL (.sym 78) a b c d),D0])
def qq (s:AV×AV) (n:Nat) (x y:VT):VT:=.call 150 [.agg (j_ s.1 s.2),.sym 78] n [none] (.ite n x y)
def l4 (a b c:AV×AV):VT:=qq sd 82 (S_ a b c zz) (S_ a b c sd)
def l3 (a b:AV×AV):VT:=qq sc 81 (l4 a b zz) (l4 a b sc)
def l2 (a:AV×AV):VT:=qq sb 80 (l3 a zz) (l3 a sb)
def eA:VT:=.done (.tup [.agg (UL (.sym 64) sa sb sc sd),.agg [.int .i64 1,.nsl]])
def tT:VT:=.lt (.bin .lss 2 false true) [73,J 0] 74 none (.ite 74 eA
 (.lt (.bin .gtr 2 false true) [73,J 1125899906842624] 75 none (.ite 75 eA
 (K (.bin .sub 2 true false) [J 1125899906842624,73] 76
 (.lt (.bin .gtr 2 false false) [64,76] 77 none (.ite 77 eA
 (.lt (.bin .add 2 false false) [64,73] 78 none (qq sa 79 (l2 zz) (l2 sa)))))))))
def cT:VC:=⟨⟨[],[]⟩,[(150,[none])],[],0,true,[]⟩
theorem eT:vFn Tryz.prog 300 cT 9 [.agg (UL (.sym 64) sa sb sc sd),q_ (.sym 73)] 74=tT:=by kernel_rfl
def v_ (x:US) (n:Int):US:=⟨x.now+n,k_ (gone (x.now+n) x.a) x.a,k_ (gone (x.now+n) x.b) x.b,k_ (gone (x.now+n) x.c) x.c,k_ (gone (x.now+n) x.d) x.d⟩
structure Bd (x:US):Prop where
 z:0<=x.now/\x.now<=900000
 a:0<=x.a.2/\x.a.2<=x.now
 b:0<=x.b.2/\x.b.2<=x.now
 c:0<=x.c.2/\x.c.2<=x.now
 d:0<=x.d.2/\x.d.2<=x.now
theorem pT (x:US) (h:Bd x) (n:Int) (hn:0<=n) (hn':n<=40000):hR_ Tryz.prog 9 [.agg (a_ x),q_ (jI n)] (.tup [.agg (a_ (v_ x n)),D0]):=by
 obtain ⟨now,⟨a,a'⟩,⟨b,b'⟩,⟨c,c'⟩,⟨d,d'⟩⟩:=x;obtain ⟨⟨hz,hz'⟩,⟨ha,ha'⟩,⟨hb,hb'⟩,⟨hc,hc'⟩,⟨hd,hd'⟩⟩:=h;simp only at hz hz' ha ha' hb hb' hc hc' hd hd';refine pure_pat (args':=[.agg (UL (.sym 64) sa sb sc sd),q_ (.sym 73)]) (ls:=[jI now,.bool a,jI a',.bool b,jI b',.bool c,jI c',.bool d,jI d',jI n]) (c:=cT) (n:=300) mox ov rfl rfl rfl rfl (λY _=>rfl) (λY _=>u4_ _) rfl eT λY hf hg=>?_;unfold tT;refine uX_ (run_lss ..) rfl (uK_ (t:=false) (congrArg (λb=>some (AV.bool b)) (decide_eq_false (by omega))) (λh=>by cases h) (λ_=>?_));refine uX_ (run_gtr ..) rfl (uK_ (t:=false) (congrArg (λb=>some (AV.bool b)) (decide_eq_false (by omega))) (λh=>by cases h) (λ_=>?_));refine uX_ (r:=jI (1125899906842624-n)) ((run_sub ..).trans (by rw [vd_ (by omega) (by omega)])) rfl ?_;refine uX_ (run_gtr ..) rfl (uK_ (t:=false) (congrArg (λb=>some (AV.bool b)) (decide_eq_false (by omega))) (λh=>by cases h) (λ_=>?_));refine uX_ (r:=jI (now+n)) ((run_add ..).trans (by rw [vd_ (by omega) (by omega)])) rfl ?_;refine uc_ (u_ (now+n) (a,a') ha (by show a'<=now+n;omega) (by omega)) rfl rfl (uK_ (t:=gone (now+n) (a,a')) rfl (λh1=>?_) (λh1=>?_))<;>
 refine uc_ (u_ (now+n) (b,b') hb (by show b'<=now+n;omega) (by omega)) rfl rfl (uK_ (t:=gone (now+n) (b,b')) rfl (λh2=>?_) (λh2=>?_))<;>
 refine uc_ (u_ (now+n) (c,c') hc (by show c'<=now+n;omega) (by omega)) rfl rfl (uK_ (t:=gone (now+n) (c,c')) rfl (λh3=>?_) (λh3=>?_))<;>
 refine uc_ (u_ (now+n) (d,d') hd (by show d'<=now+n;omega) (by omega)) rfl rfl (uK_ (t:=gone (now+n) (d,d')) rfl (λh4=>ud_ ?_) (λh4=>ud_ ?_))<;>
 (unfold v_;rw [h1,h2,h3,h4];rfl)
theorem eB0:vFn Tryz.prog 300 cD 9 [.agg (UL (.sym 64) (.bool true,.sym 66) sb sc sd),b_ (.int .i64 0)] 73=.done (.tup [.agg (UL (.sym 64) (.bool true,.sym 64) sb sc sd),D0]):=by kernel_rfl
theorem pB0 (x:US) (h:x.a.1=true):hR_ Tryz.prog 9 [.agg (a_ x),b_ (jI 0)] (.tup [.agg (a_ { x with a:=(true,x.now) }),D0]):=by obtain ⟨now,⟨a,a'⟩,⟨b,b'⟩,⟨c,c'⟩,⟨d,d'⟩⟩:=x;have h:a=true:=h;subst h;exact pure_pat (args':=[.agg (UL (.sym 64) (.bool true,.sym 66) sb sc sd),b_ (.int .i64 0)]) (ls:=[jI now,.bool true,jI a',.bool b,jI b',.bool c,jI c',.bool d,jI d']) (c:=cD) (n:=300) mox ov rfl rfl rfl rfl (λY _=>rfl) (λY _=>u4_ _) rfl eB0 λY hf hg=>ud_ rfl
theorem eB1:vFn Tryz.prog 300 cD 9 [.agg (UL (.sym 64) sa (.bool true,.sym 68) sc sd),b_ (.int .i64 1)] 73=.done (.tup [.agg (UL (.sym 64) sa (.bool true,.sym 64) sc sd),D0]):=by kernel_rfl
theorem pB1 (x:US) (h:x.b.1=true):hR_ Tryz.prog 9 [.agg (a_ x),b_ (jI 1)] (.tup [.agg (a_ { x with b:=(true,x.now) }),D0]):=by obtain ⟨now,⟨a,a'⟩,⟨b,b'⟩,⟨c,c'⟩,⟨d,d'⟩⟩:=x;have h:b=true:=h;subst h;exact pure_pat (args':=[.agg (UL (.sym 64) sa (.bool true,.sym 68) sc sd),b_ (.int .i64 1)]) (ls:=[jI now,.bool a,jI a',.bool true,jI b',.bool c,jI c',.bool d,jI d']) (c:=cD) (n:=300) mox ov rfl rfl rfl rfl (λY _=>rfl) (λY _=>u4_ _) rfl eB1 λY hf hg=>ud_ rfl
theorem eB2:vFn Tryz.prog 300 cD 9 [.agg (UL (.sym 64) sa sb (.bool true,.sym 70) sd),b_ (.int .i64 2)] 73=.done (.tup [.agg (UL (.sym 64) sa sb (.bool true,.sym 64) sd),D0]):=by kernel_rfl
theorem pB2 (x:US) (h:x.c.1=true):hR_ Tryz.prog 9 [.agg (a_ x),b_ (jI 2)] (.tup [.agg (a_ { x with c:=(true,x.now) }),D0]):=by obtain ⟨now,⟨a,a'⟩,⟨b,b'⟩,⟨c,c'⟩,⟨d,d'⟩⟩:=x;have h:c=true:=h;subst h;exact pure_pat (args':=[.agg (UL (.sym 64) sa sb (.bool true,.sym 70) sd),b_ (.int .i64 2)]) (ls:=[jI now,.bool a,jI a',.bool b,jI b',.bool true,jI c',.bool d,jI d']) (c:=cD) (n:=300) mox ov rfl rfl rfl rfl (λY _=>rfl) (λY _=>u4_ _) rfl eB2 λY hf hg=>ud_ rfl
theorem eB3:vFn Tryz.prog 300 cD 9 [.agg (UL (.sym 64) sa sb sc (.bool true,.sym 72)),b_ (.int .i64 3)] 73=.done (.tup [.agg (UL (.sym 64) sa sb sc (.bool true,.sym 64)),D0]):=by kernel_rfl
theorem pB3 (x:US) (h:x.d.1=true):hR_ Tryz.prog 9 [.agg (a_ x),b_ (jI 3)] (.tup [.agg (a_ { x with d:=(true,x.now) }),D0]):=by obtain ⟨now,⟨a,a'⟩,⟨b,b'⟩,⟨c,c'⟩,⟨d,d'⟩⟩:=x;have h:d=true:=h;subst h;exact pure_pat (args':=[.agg (UL (.sym 64) sa sb sc (.bool true,.sym 72)),b_ (.int .i64 3)]) (ls:=[jI now,.bool a,jI a',.bool b,jI b',.bool c,jI c',.bool true,jI d']) (c:=cD) (n:=300) mox ov rfl rfl rfl rfl (λY _=>rfl) (λY _=>u4_ _) rfl eB3 λY hf hg=>ud_ rfl
end Go.Proofs.YtaamplmpnmegdaaGreatDoor.vars
set_option maxRecDepth 100000
set_option linter.unusedVariables false
namespace Go.Proofs.YtaamplmpnmegdaaGreatDoor.vars
open Go Go.Sx
namespace Bel
abbrev G (l:List (FuncId×List AV×AV)):Gl:=er_ 1 l
theorem o0: @lq_ (G []) Tryz.prog:=uQ_ 1 Tryz.prog
theorem fx1:Tryz.prog.funcs[262]? =some Tryz.f262:=Tryz.func262
theorem fx2:(Tryz.f262.name== "runtime.NumGoroutine")=false:=by kernel_rfl
theorem fx3:Tryz.f262.body.isNone=true:=by kernel_rfl
theorem fx4:Extern.findNext Tryz.f262=none:=by kernel_rfl
theorem fx5:Extern.find Tryz.f262=some Extern.BytealgIndex.index:=by kernel_rfl
theorem fx6:Tryz.prog.globals.findIdx? (·.name==(entryReads.headD ("","")).2)=some 1:=by kernel_rfl
def a0:List AV:=[.str [58,61,32,60,62,32,60,61,32,62,61],.str [58,61]]
def v0:AV:=.int .i64 0
theorem e0: @th_ (G []) Tryz.prog 300 2 262 225 a0 v0=true:=by kernel_rfl
def l1:List (FuncId×List AV×AV):=(225,a0,v0)::[]
theorem h0: @hR_ (G []) Tryz.prog 225 a0 v0:=uu_ mox o0 fx1 fx2 fx3 fx4 fx5 fx6 (by kernel_rfl) e0
theorem o1: @lq_ (G l1) Tryz.prog:=uy_ o0 h0
def a1:List AV:=[.str [58,61,32,60,62,32,60,61,32,62,61],.str [91,51]]
def v1:AV:=.int .i64 (-1)
theorem e1: @th_ (G l1) Tryz.prog 300 2 262 225 a1 v1=true:=by kernel_rfl
def l2:List (FuncId×List AV×AV):=(225,a1,v1)::l1
theorem h1: @hR_ (G l1) Tryz.prog 225 a1 v1:=uu_ mox o1 fx1 fx2 fx3 fx4 fx5 fx6 (by kernel_rfl) e1
theorem o2: @lq_ (G l2) Tryz.prog:=uy_ o1 h1
def a2:List AV:=[.str [58,61,32,60,62,32,60,61,32,62,61],.str [93,59]]
def v2:AV:=.int .i64 (-1)
theorem e2: @th_ (G l2) Tryz.prog 300 2 262 225 a2 v2=true:=by kernel_rfl
def l3:List (FuncId×List AV×AV):=(225,a2,v2)::l2
theorem h2: @hR_ (G l2) Tryz.prog 225 a2 v2:=uu_ mox o2 fx1 fx2 fx3 fx4 fx5 fx6 (by kernel_rfl) e2
theorem o3: @lq_ (G l3) Tryz.prog:=uy_ o2 h2
def a3:List AV:=[.str [58,61,32,60,62,32,60,61,32,62,61],.str [91,120]]
def v3:AV:=.int .i64 (-1)
theorem e3: @th_ (G l3) Tryz.prog 300 2 262 225 a3 v3=true:=by kernel_rfl
def l4:List (FuncId×List AV×AV):=(225,a3,v3)::l3
theorem h3: @hR_ (G l3) Tryz.prog 225 a3 v3:=uu_ mox o3 fx1 fx2 fx3 fx4 fx5 fx6 (by kernel_rfl) e3
theorem o4: @lq_ (G l4) Tryz.prog:=uy_ o3 h3
def a4:List AV:=[.str [105,110,32,97,32,58,32,105,110,116,59,32,105,110,32,98,32,58,32,98,111,111,108,59,32,111,117,116,32,111,32,58,32,105,110,116,32,58,61,32,49,44,32,57,59,32,118,97,114,32,110,32,58,32,105,110,116,59,32,118,97,114,32,120,32,58,32,105,110,116,59,32,118,97,114,32,114,32,58,32,114,101,97,108,59,32,118,97,114,32,107,32,58,32,105,110,116,91,51,93,59,32,110,32,58,61,32,110,32,43,32,49,59,32,111,32,58,61,32,120,32,43,32,97,59,32,105,102,32,98,32,116,104,101,110,32,107,91,120,93,32,58,61,32,97,59,32,101,110,100,32,114,32,58,61,32,114,32,43,32,48,46,53,59]]
def v4:AV:=.tup [.vsl 71 5 [.int .i64 1,.str [105,110],.int .i64 0,.flt .f64 0,.int .i64 0,.int .i64 1,.str [97],.int .i64 0,.flt .f64 0,.int .i64 3,.int .i64 5,.str [58],.int .i64 0,.flt .f64 0,.int .i64 5,.int .i64 1,.str [105,110,116],.int .i64 0,.flt .f64 0,.int .i64 7,.int .i64 5,.str [59],.int .i64 0,.flt .f64 0,.int .i64 10,.int .i64 1,.str [105,110],.int .i64 0,.flt .f64 0,.int .i64 12,.int .i64 1,.str [98],.int .i64 0,.flt .f64 0,.int .i64 15,.int .i64 5,.str [58],.int .i64 0,.flt .f64 0,.int .i64 17,.int .i64 1,.str [98,111,111,108],.int .i64 0,.flt .f64 0,.int .i64 19,.int .i64 5,.str [59],.int .i64 0,.flt .f64 0,.int .i64 23,.int .i64 1,.str [111,117,116],.int .i64 0,.flt .f64 0,.int .i64 25,.int .i64 1,.str [111],.int .i64 0,.flt .f64 0,.int .i64 29,.int .i64 5,.str [58],.int .i64 0,.flt .f64 0,.int .i64 31,.int .i64 1,.str [105,110,116],.int .i64 0,.flt .f64 0,.int .i64 33,.int .i64 5,.str [58,61],.int .i64 0,.flt .f64 0,.int .i64 37,.int .i64 2,.str [],.int .i64 1,.flt .f64 0,.int .i64 40,.int .i64 5,.str [44],.int .i64 0,.flt .f64 0,.int .i64 41,.int .i64 2,.str [],.int .i64 9,.flt .f64 0,.int .i64 43,.int .i64 5,.str [59],.int .i64 0,.flt .f64 0,.int .i64 44,.int .i64 1,.str [118,97,114],.int .i64 0,.flt .f64 0,.int .i64 46,.int .i64 1,.str [110],.int .i64 0,.flt .f64 0,.int .i64 50,.int .i64 5,.str [58],.int .i64 0,.flt .f64 0,.int .i64 52,.int .i64 1,.str [105,110,116],.int .i64 0,.flt .f64 0,.int .i64 54,.int .i64 5,.str [59],.int .i64 0,.flt .f64 0,.int .i64 57,.int .i64 1,.str [118,97,114],.int .i64 0,.flt .f64 0,.int .i64 59,.int .i64 1,.str [120],.int .i64 0,.flt .f64 0,.int .i64 63,.int .i64 5,.str [58],.int .i64 0,.flt .f64 0,.int .i64 65,.int .i64 1,.str [105,110,116],.int .i64 0,.flt .f64 0,.int .i64 67,.int .i64 5,.str [59],.int .i64 0,.flt .f64 0,.int .i64 70,.int .i64 1,.str [118,97,114],.int .i64 0,.flt .f64 0,.int .i64 72,.int .i64 1,.str [114],.int .i64 0,.flt .f64 0,.int .i64 76,.int .i64 5,.str [58],.int .i64 0,.flt .f64 0,.int .i64 78,.int .i64 1,.str [114,101,97,108],.int .i64 0,.flt .f64 0,.int .i64 80,.int .i64 5,.str [59],.int .i64 0,.flt .f64 0,.int .i64 84,.int .i64 1,.str [118,97,114],.int .i64 0,.flt .f64 0,.int .i64 86,.int .i64 1,.str [107],.int .i64 0,.flt .f64 0,.int .i64 90,.int .i64 5,.str [58],.int .i64 0,.flt .f64 0,.int .i64 92,.int .i64 1,.str [105,110,116],.int .i64 0,.flt .f64 0,.int .i64 94,.int .i64 5,.str [91],.int .i64 0,.flt .f64 0,.int .i64 97,.int .i64 2,.str [],.int .i64 3,.flt .f64 0,.int .i64 98,.int .i64 5,.str [93],.int .i64 0,.flt .f64 0,.int .i64 99,.int .i64 5,.str [59],.int .i64 0,.flt .f64 0,.int .i64 100,.int .i64 1,.str [110],.int .i64 0,.flt .f64 0,.int .i64 102,.int .i64 5,.str [58,61],.int .i64 0,.flt .f64 0,.int .i64 104,.int .i64 1,.str [110],.int .i64 0,.flt .f64 0,.int .i64 107,.int .i64 5,.str [43],.int .i64 0,.flt .f64 0,.int .i64 109,.int .i64 2,.str [],.int .i64 1,.flt .f64 0,.int .i64 111,.int .i64 5,.str [59],.int .i64 0,.flt .f64 0,.int .i64 112,.int .i64 1,.str [111],.int .i64 0,.flt .f64 0,.int .i64 114,.int .i64 5,.str [58,61],.int .i64 0,.flt .f64 0,.int .i64 116,.int .i64 1,.str [120],.int .i64 0,.flt .f64 0,.int .i64 119,.int .i64 5,.str [43],.int .i64 0,.flt .f64 0,.int .i64 121,.int .i64 1,.str [97],.int .i64 0,.flt .f64 0,.int .i64 123,.int .i64 5,.str [59],.int .i64 0,.flt .f64 0,.int .i64 124,.int .i64 1,.str [105,102],.int .i64 0,.flt .f64 0,.int .i64 126,.int .i64 1,.str [98],.int .i64 0,.flt .f64 0,.int .i64 129,.int .i64 1,.str [116,104,101,110],.int .i64 0,.flt .f64 0,.int .i64 131,.int .i64 1,.str [107],.int .i64 0,.flt .f64 0,.int .i64 136,.int .i64 5,.str [91],.int .i64 0,.flt .f64 0,.int .i64 137,.int .i64 1,.str [120],.int .i64 0,.flt .f64 0,.int .i64 138,.int .i64 5,.str [93],.int .i64 0,.flt .f64 0,.int .i64 139,.int .i64 5,.str [58,61],.int .i64 0,.flt .f64 0,.int .i64 141,.int .i64 1,.str [97],.int .i64 0,.flt .f64 0,.int .i64 144,.int .i64 5,.str [59],.int .i64 0,.flt .f64 0,.int .i64 145,.int .i64 1,.str [101,110,100],.int .i64 0,.flt .f64 0,.int .i64 147,.int .i64 1,.str [114],.int .i64 0,.flt .f64 0,.int .i64 151,.int .i64 5,.str [58,61],.int .i64 0,.flt .f64 0,.int .i64 153,.int .i64 1,.str [114],.int .i64 0,.flt .f64 0,.int .i64 156,.int .i64 5,.str [43],.int .i64 0,.flt .f64 0,.int .i64 158,.int .i64 3,.str [],.int .i64 0,.flt .f64 4602678819172646912,.int .i64 160,.int .i64 5,.str [59],.int .i64 0,.flt .f64 0,.int .i64 163],.int .i64 0,.bool true]
theorem e4: @ut_ (G l4) Tryz.prog 3000 23 a4 v4=true:=by kernel_rfl
def l5:List (FuncId×List AV×AV):=(23,a4,v4)::l4
theorem h4: @hR_ (G l4) Tryz.prog 23 a4 v4:= @uN_ (G l4) Tryz.prog mox o4 3000 23 a4 v4 e4
theorem o5: @lq_ (G l5) Tryz.prog:=uy_ o4 h4
def a5:List AV:=[.str [105,110,32,97,32,58,32,105,110,116,59,32,105,110,32,98,32,58,32,98,111,111,108,59,32,111,117,116,32,111,32,58,32,105,110,116,32,58,61,32,49,44,32,57,59,32,118,97,114,32,110,32,58,32,105,110,116,59,32,118,97,114,32,120,32,58,32,105,110,116,59,32,118,97,114,32,114,32,58,32,114,101,97,108,59,32,118,97,114,32,107,32,58,32,105,110,116,91,51,93,59,32,110,32,58,61,32,110,32,43,32,49,59,32,111,32,58,61,32,120,32,43,32,97,59,32,105,102,32,98,32,116,104,101,110,32,107,91,120,93,32,58,61,32,97,59,32,101,110,100,32,114,32,58,61,32,114,32,43,32,48,46,53,59]]
def v5:AV:=.tup [.agg [VARS2,.vsl 4 27 [.int .i64 1,.int .i64 2,.int .i64 0,.str [110],.str [],.int .i64 0,.int .i64 0,.int .i64 0,.int .i64 0,.flt .f64 0,.nsl,.int .i64 4,.int .i64 0,.str [],.str [],.int .i64 0,.int .i64 0,.int .i64 0,.int .i64 0,.flt .f64 0,.vsl 2 10 [.int .i64 2,.int .i64 0,.str [110],.str [],.int .i64 0,.int .i64 0,.int .i64 0,.int .i64 0,.flt .f64 0,.nsl,.int .i64 1,.int .i64 0,.str [],.str [],.int .i64 0,.int .i64 0,.int .i64 3,.int .i64 1,.flt .f64 0,.nsl],.nsl,.nsl,.str [],.int .i64 0,.int .i64 0,.nsl,.int .i64 1,.int .i64 2,.int .i64 0,.str [111],.str [],.int .i64 0,.int .i64 0,.int .i64 0,.int .i64 0,.flt .f64 0,.nsl,.int .i64 4,.int .i64 0,.str [],.str [],.int .i64 0,.int .i64 0,.int .i64 0,.int .i64 0,.flt .f64 0,.vsl 2 10 [.int .i64 2,.int .i64 0,.str [120],.str [],.int .i64 0,.int .i64 0,.int .i64 0,.int .i64 0,.flt .f64 0,.nsl,.int .i64 2,.int .i64 0,.str [97],.str [],.int .i64 0,.int .i64 0,.int .i64 0,.int .i64 0,.flt .f64 0,.nsl],.nsl,.nsl,.str [],.int .i64 0,.int .i64 0,.nsl,.int .i64 2,.int .i64 0,.int .i64 0,.str [],.str [],.int .i64 0,.int .i64 0,.int .i64 0,.int .i64 0,.flt .f64 0,.nsl,.int .i64 2,.int .i64 0,.str [98],.str [],.int .i64 0,.int .i64 0,.int .i64 0,.int .i64 0,.flt .f64 0,.nsl,.vsl 1 27 [.int .i64 1,.int .i64 3,.int .i64 0,.str [107],.str [],.int .i64 0,.int .i64 0,.int .i64 0,.int .i64 0,.flt .f64 0,.vsl 1 10 [.int .i64 2,.int .i64 0,.str [120],.str [],.int .i64 0,.int .i64 0,.int .i64 0,.int .i64 0,.flt .f64 0,.nsl],.int .i64 2,.int .i64 0,.str [97],.str [],.int .i64 0,.int .i64 0,.int .i64 0,.int .i64 0,.flt .f64 0,.nsl,.nsl,.nsl,.str [],.int .i64 0,.int .i64 0,.nsl],.nsl,.str [],.int .i64 0,.int .i64 0,.nsl,.int .i64 1,.int .i64 2,.int .i64 0,.str [114],.str [],.int .i64 0,.int .i64 0,.int .i64 0,.int .i64 0,.flt .f64 0,.nsl,.int .i64 4,.int .i64 0,.str [],.str [],.int .i64 0,.int .i64 0,.int .i64 0,.int .i64 0,.flt .f64 0,.vsl 2 10 [.int .i64 2,.int .i64 0,.str [114],.str [],.int .i64 0,.int .i64 0,.int .i64 0,.int .i64 0,.flt .f64 0,.nsl,.int .i64 1,.int .i64 0,.str [],.str [],.int .i64 0,.int .i64 0,.int .i64 5,.int .i64 0,.flt .f64 4602678819172646912,.nsl],.nsl,.nsl,.str [],.int .i64 0,.int .i64 0,.nsl]],.int .i64 0,.bool true]
theorem e5: @ut_ (G l5) Tryz.prog 3000 12 a5 v5=true:=by kernel_rfl
def l6:List (FuncId×List AV×AV):=(12,a5,v5)::l5
theorem h5: @hR_ (G l5) Tryz.prog 12 a5 v5:= @uN_ (G l5) Tryz.prog mox o5 3000 12 a5 v5 e5
theorem o6: @lq_ (G l6) Tryz.prog:=uy_ o5 h5
def a6:List AV:=[VARS2]
def v6:AV:=.int .i64 0
theorem e6: @ut_ (G l6) Tryz.prog 3000 27 a6 v6=true:=by kernel_rfl
def l7:List (FuncId×List AV×AV):=(27,a6,v6)::l6
theorem h6: @hR_ (G l6) Tryz.prog 27 a6 v6:= @uN_ (G l6) Tryz.prog mox o6 3000 27 a6 v6 e6
theorem o7: @lq_ (G l7) Tryz.prog:=uy_ o6 h6
def a7:List AV:=[VARS2]
def v7:AV:=.tup [.vsl 7 1 [.int .i64 0,.int .i64 1,.int .i64 2,.int .i64 3,.int .i64 4,.int .i64 5,.int .i64 6],.int .i64 9]
theorem e7: @ut_ (G l7) Tryz.prog 3000 28 a7 v7=true:=by kernel_rfl
def l8:List (FuncId×List AV×AV):=(28,a7,v7)::l7
theorem h7: @hR_ (G l7) Tryz.prog 28 a7 v7:= @uN_ (G l7) Tryz.prog mox o7 3000 28 a7 v7 e7
theorem o8: @lq_ (G l8) Tryz.prog:=uy_ o7 h7
def a8:List AV:=[.agg [VARS2,.vsl 4 27 [.int .i64 1,.int .i64 2,.int .i64 0,.str [110],.str [],.int .i64 0,.int .i64 0,.int .i64 0,.int .i64 0,.flt .f64 0,.nsl,.int .i64 4,.int .i64 0,.str [],.str [],.int .i64 0,.int .i64 0,.int .i64 0,.int .i64 0,.flt .f64 0,.vsl 2 10 [.int .i64 2,.int .i64 0,.str [110],.str [],.int .i64 0,.int .i64 0,.int .i64 0,.int .i64 0,.flt .f64 0,.nsl,.int .i64 1,.int .i64 0,.str [],.str [],.int .i64 0,.int .i64 0,.int .i64 3,.int .i64 1,.flt .f64 0,.nsl],.nsl,.nsl,.str [],.int .i64 0,.int .i64 0,.nsl,.int .i64 1,.int .i64 2,.int .i64 0,.str [111],.str [],.int .i64 0,.int .i64 0,.int .i64 0,.int .i64 0,.flt .f64 0,.nsl,.int .i64 4,.int .i64 0,.str [],.str [],.int .i64 0,.int .i64 0,.int .i64 0,.int .i64 0,.flt .f64 0,.vsl 2 10 [.int .i64 2,.int .i64 0,.str [120],.str [],.int .i64 0,.int .i64 0,.int .i64 0,.int .i64 0,.flt .f64 0,.nsl,.int .i64 2,.int .i64 0,.str [97],.str [],.int .i64 0,.int .i64 0,.int .i64 0,.int .i64 0,.flt .f64 0,.nsl],.nsl,.nsl,.str [],.int .i64 0,.int .i64 0,.nsl,.int .i64 2,.int .i64 0,.int .i64 0,.str [],.str [],.int .i64 0,.int .i64 0,.int .i64 0,.int .i64 0,.flt .f64 0,.nsl,.int .i64 2,.int .i64 0,.str [98],.str [],.int .i64 0,.int .i64 0,.int .i64 0,.int .i64 0,.flt .f64 0,.nsl,.vsl 1 27 [.int .i64 1,.int .i64 3,.int .i64 0,.str [107],.str [],.int .i64 0,.int .i64 0,.int .i64 0,.int .i64 0,.flt .f64 0,.vsl 1 10 [.int .i64 2,.int .i64 0,.str [120],.str [],.int .i64 0,.int .i64 0,.int .i64 0,.int .i64 0,.flt .f64 0,.nsl],.int .i64 2,.int .i64 0,.str [97],.str [],.int .i64 0,.int .i64 0,.int .i64 0,.int .i64 0,.flt .f64 0,.nsl,.nsl,.nsl,.str [],.int .i64 0,.int .i64 0,.nsl],.nsl,.str [],.int .i64 0,.int .i64 0,.nsl,.int .i64 1,.int .i64 2,.int .i64 0,.str [114],.str [],.int .i64 0,.int .i64 0,.int .i64 0,.int .i64 0,.flt .f64 0,.nsl,.int .i64 4,.int .i64 0,.str [],.str [],.int .i64 0,.int .i64 0,.int .i64 0,.int .i64 0,.flt .f64 0,.vsl 2 10 [.int .i64 2,.int .i64 0,.str [114],.str [],.int .i64 0,.int .i64 0,.int .i64 0,.int .i64 0,.flt .f64 0,.nsl,.int .i64 1,.int .i64 0,.str [],.str [],.int .i64 0,.int .i64 0,.int .i64 5,.int .i64 0,.flt .f64 4602678819172646912,.nsl],.nsl,.nsl,.str [],.int .i64 0,.int .i64 0,.nsl]]]
def v8:AV:=.tup [.agg [VARS2,BODY2],.int .i64 0]
theorem e8: @ut_ (G l8) Tryz.prog 3000 14 a8 v8=true:=by kernel_rfl
def l9:List (FuncId×List AV×AV):=(14,a8,v8)::l8
theorem h8: @hR_ (G l8) Tryz.prog 14 a8 v8:= @uN_ (G l8) Tryz.prog mox o8 3000 14 a8 v8 e8
theorem o9: @lq_ (G l9) Tryz.prog:=uy_ o8 h8
def a9:List AV:=[.agg [VARS2,BODY2]]
def v9:AV:=.tup [CODE2,.int .i64 0]
theorem e9: @ut_ (G l9) Tryz.prog 3000 16 a9 v9=true:=by kernel_rfl
def C_:List (FuncId×List AV×AV):=(16,a9,v9)::l9
theorem h9: @hR_ (G l9) Tryz.prog 16 a9 v9:= @uN_ (G l9) Tryz.prog mox o9 3000 16 a9 v9 e9
theorem o10: @lq_ (G C_) Tryz.prog:=uy_ o9 h9
def Y_:List AV:=[CODE2,.int .i64 9]
def v10:AV:=.int .i64 0
theorem e10: @ut_ (G C_) Tryz.prog 3000 36 Y_ v10=true:=by kernel_rfl
def D_:List (FuncId×List AV×AV):=(36,Y_,v10)::C_
theorem h10: @hR_ (G C_) Tryz.prog 36 Y_ v10:= @uN_ (G C_) Tryz.prog mox o10 3000 36 Y_ v10 e10
theorem o11: @lq_ (G D_) Tryz.prog:=uy_ o10 h10
def Z_:List AV:=[.agg [VARS2,BODY2],CODE2,.int .i64 100]
def v11:AV:=.tup [.agg [VARS2,CODE2,.int .i64 100,.vsl 9 3 [.int .i64 2,.int .i64 0,.flt .f64 0,.int .i64 1,.int .i64 0,.flt .f64 0,.int .i64 2,.int .i64 1,.flt .f64 0,.int .i64 2,.int .i64 0,.flt .f64 0,.int .i64 2,.int .i64 0,.flt .f64 0,.int .i64 5,.int .i64 0,.flt .f64 0,.int .i64 2,.int .i64 0,.flt .f64 0,.int .i64 2,.int .i64 0,.flt .f64 0,.int .i64 2,.int .i64 0,.flt .f64 0],.int .i64 0,.nsl,.nsl,.int .i64 0,.int .i64 0,.bool true,.int .i64 0,.int .i64 0,.int .i64 0],.int .i64 0]
theorem e11: @ut_ (G D_) Tryz.prog 3000 17 Z_ v11=true:=by kernel_rfl
def E_:List (FuncId×List AV×AV):=(17,Z_,v11)::D_
theorem h11: @hR_ (G D_) Tryz.prog 17 Z_ v11:= @uN_ (G D_) Tryz.prog mox o11 3000 17 Z_ v11 e11
theorem o12: @lq_ (G E_) Tryz.prog:=uy_ o11 h11
def a12:List AV:=[.str [105,110,32,97,32,58,32,105,110,116,59,32,105,110,32,98,32,58,32,98,111,111,108,59,32,111,117,116,32,111,32,58,32,105,110,116,32,58,61,32,49,44,32,57,59,32,118,97,114,32,110,32,58,32,105,110,116,59,32,118,97,114,32,120,32,58,32,105,110,116,59,32,118,97,114,32,114,32,58,32,114,101,97,108,59,32,118,97,114,32,107,32,58,32,105,110,116,91,51,93,59,32,110,32,58,61,32,110,32,43,32,49,59,32,111,32,58,61,32,120,32,43,32,97,59,32,105,102,32,98,32,116,104,101,110,32,107,91,120,93,32,58,61,32,97,59,32,101,110,100,32,114,32,58,61,32,114,32,43,32,48,46,53,59],.int .i64 100]
def v12:AV:=.tup [.agg [VARS2,BODY2,VARS2,CODE2,.int .i64 100,.vsl 9 3 [.int .i64 2,.int .i64 0,.flt .f64 0,.int .i64 1,.int .i64 0,.flt .f64 0,.int .i64 2,.int .i64 1,.flt .f64 0,.int .i64 2,.int .i64 0,.flt .f64 0,.int .i64 2,.int .i64 0,.flt .f64 0,.int .i64 5,.int .i64 0,.flt .f64 0,.int .i64 2,.int .i64 0,.flt .f64 0,.int .i64 2,.int .i64 0,.flt .f64 0,.int .i64 2,.int .i64 0,.flt .f64 0],.int .i64 0,.nsl,.nsl,.int .i64 0,.int .i64 0,.bool true,.int .i64 0,.int .i64 0,.int .i64 0,.int .i64 0,SESS0,.nsl,.vsl 9 3 [.int .i64 2,.int .i64 0,.flt .f64 0,.int .i64 1,.int .i64 0,.flt .f64 0,.int .i64 2,.int .i64 1,.flt .f64 0,.int .i64 2,.int .i64 0,.flt .f64 0,.int .i64 2,.int .i64 0,.flt .f64 0,.int .i64 5,.int .i64 0,.flt .f64 0,.int .i64 2,.int .i64 0,.flt .f64 0,.int .i64 2,.int .i64 0,.flt .f64 0,.int .i64 2,.int .i64 0,.flt .f64 0]],.int .i64 0,.int .i64 0]
theorem e12: @ut_ (G E_) Tryz.prog 3000 6 a12 v12=true:=by kernel_rfl
def F_:List (FuncId×List AV×AV):=(6,a12,v12)::E_
theorem h12: @hR_ (G E_) Tryz.prog 6 a12 v12:= @uN_ (G E_) Tryz.prog mox o12 3000 6 a12 v12 e12
theorem o13: @lq_ (G F_) Tryz.prog:=uy_ o12 h12
def a13:List AV:=[.agg [VARS2,BODY2,VARS2,CODE2,.int .i64 100,.vsl 9 3 [.int .i64 2,.int .i64 0,.flt .f64 0,.int .i64 1,.int .i64 0,.flt .f64 0,.int .i64 2,.int .i64 1,.flt .f64 0,.int .i64 2,.int .i64 0,.flt .f64 0,.int .i64 2,.int .i64 0,.flt .f64 0,.int .i64 5,.int .i64 0,.flt .f64 0,.int .i64 2,.int .i64 0,.flt .f64 0,.int .i64 2,.int .i64 0,.flt .f64 0,.int .i64 2,.int .i64 0,.flt .f64 0],.int .i64 0,.nsl,.nsl,.int .i64 0,.int .i64 0,.bool true,.int .i64 0,.int .i64 0,.int .i64 0,.int .i64 0,SESS0,.nsl,.vsl 9 3 [.int .i64 2,.int .i64 0,.flt .f64 0,.int .i64 1,.int .i64 0,.flt .f64 0,.int .i64 2,.int .i64 1,.flt .f64 0,.int .i64 2,.int .i64 0,.flt .f64 0,.int .i64 2,.int .i64 0,.flt .f64 0,.int .i64 5,.int .i64 0,.flt .f64 0,.int .i64 2,.int .i64 0,.flt .f64 0,.int .i64 2,.int .i64 0,.flt .f64 0,.int .i64 2,.int .i64 0,.flt .f64 0]],stepM]
def v13:AV:=.tup [.agg [VARS2,BODY2,VARS2,CODE2,.int .i64 100,.vsl 9 3 [.int .i64 2,.int .i64 0,.flt .f64 0,.int .i64 1,.int .i64 0,.flt .f64 0,.int .i64 2,.int .i64 1,.flt .f64 0,.int .i64 2,.int .i64 0,.flt .f64 0,.int .i64 2,.int .i64 0,.flt .f64 0,.int .i64 5,.int .i64 0,.flt .f64 0,.int .i64 2,.int .i64 0,.flt .f64 0,.int .i64 2,.int .i64 0,.flt .f64 0,.int .i64 2,.int .i64 0,.flt .f64 0],.int .i64 0,.nsl,.vsl 9 3 [.int .i64 2,.int .i64 0,.flt .f64 0,.int .i64 1,.int .i64 0,.flt .f64 0,.int .i64 2,.int .i64 1,.flt .f64 0,.int .i64 2,.int .i64 0,.flt .f64 0,.int .i64 2,.int .i64 0,.flt .f64 0,.int .i64 5,.int .i64 0,.flt .f64 0,.int .i64 2,.int .i64 0,.flt .f64 0,.int .i64 2,.int .i64 0,.flt .f64 0,.int .i64 2,.int .i64 0,.flt .f64 0],.int .i64 0,.int .i64 0,.bool false,.int .i64 0,.int .i64 0,.int .i64 0,.int .i64 0,SESS0,.nsl,.vsl 9 3 [.int .i64 2,.int .i64 0,.flt .f64 0,.int .i64 1,.int .i64 0,.flt .f64 0,.int .i64 2,.int .i64 1,.flt .f64 0,.int .i64 2,.int .i64 0,.flt .f64 0,.int .i64 2,.int .i64 0,.flt .f64 0,.int .i64 5,.int .i64 0,.flt .f64 0,.int .i64 2,.int .i64 0,.flt .f64 0,.int .i64 2,.int .i64 0,.flt .f64 0,.int .i64 2,.int .i64 0,.flt .f64 0]],.agg [.int .i64 0,.nsl]]
theorem e13: @ut_ (G F_) Tryz.prog 3000 9 a13 v13=true:=by kernel_rfl
def G_:List (FuncId×List AV×AV):=(9,a13,v13)::F_
theorem h13: @hR_ (G F_) Tryz.prog 9 a13 v13:= @uN_ (G F_) Tryz.prog mox o13 3000 9 a13 v13 e13
theorem o14: @lq_ (G G_) Tryz.prog:=uy_ o13 h13
def a14:List AV:=[.agg [VARS2,BODY2,VARS2,CODE2,.int .i64 100,.vsl 9 3 [.int .i64 2,.int .i64 0,.flt .f64 0,.int .i64 1,.int .i64 0,.flt .f64 0,.int .i64 2,.int .i64 1,.flt .f64 0,.int .i64 2,.int .i64 0,.flt .f64 0,.int .i64 2,.int .i64 0,.flt .f64 0,.int .i64 5,.int .i64 0,.flt .f64 0,.int .i64 2,.int .i64 0,.flt .f64 0,.int .i64 2,.int .i64 0,.flt .f64 0,.int .i64 2,.int .i64 0,.flt .f64 0],.int .i64 0,.nsl,.vsl 9 3 [.int .i64 2,.int .i64 0,.flt .f64 0,.int .i64 1,.int .i64 0,.flt .f64 0,.int .i64 2,.int .i64 1,.flt .f64 0,.int .i64 2,.int .i64 0,.flt .f64 0,.int .i64 2,.int .i64 0,.flt .f64 0,.int .i64 5,.int .i64 0,.flt .f64 0,.int .i64 2,.int .i64 0,.flt .f64 0,.int .i64 2,.int .i64 0,.flt .f64 0,.int .i64 2,.int .i64 0,.flt .f64 0],.int .i64 0,.int .i64 0,.bool false,.int .i64 0,.int .i64 0,.int .i64 0,.int .i64 0,SESS0,.nsl,.vsl 9 3 [.int .i64 2,.int .i64 0,.flt .f64 0,.int .i64 1,.int .i64 0,.flt .f64 0,.int .i64 2,.int .i64 1,.flt .f64 0,.int .i64 2,.int .i64 0,.flt .f64 0,.int .i64 2,.int .i64 0,.flt .f64 0,.int .i64 5,.int .i64 0,.flt .f64 0,.int .i64 2,.int .i64 0,.flt .f64 0,.int .i64 2,.int .i64 0,.flt .f64 0,.int .i64 2,.int .i64 0,.flt .f64 0]],.agg [.int .i64 2,.int .i64 9,.int .i64 0,.nsl,.int .i64 0,.int .i64 0,.flt .f64 0]]
def v14:AV:=.tup [.agg [VARS2,BODY2,VARS2,CODE2,.int .i64 100,.vsl 9 3 [.int .i64 2,.int .i64 0,.flt .f64 0,.int .i64 1,.int .i64 0,.flt .f64 0,.int .i64 2,.int .i64 1,.flt .f64 0,.int .i64 2,.int .i64 0,.flt .f64 0,.int .i64 2,.int .i64 0,.flt .f64 0,.int .i64 5,.int .i64 0,.flt .f64 0,.int .i64 2,.int .i64 0,.flt .f64 0,.int .i64 2,.int .i64 0,.flt .f64 0,.int .i64 2,.int .i64 0,.flt .f64 0],.int .i64 0,.nsl,.vsl 9 3 [.int .i64 2,.int .i64 0,.flt .f64 0,.int .i64 1,.int .i64 0,.flt .f64 0,.int .i64 2,.int .i64 1,.flt .f64 0,.int .i64 2,.int .i64 0,.flt .f64 0,.int .i64 2,.int .i64 0,.flt .f64 0,.int .i64 5,.int .i64 0,.flt .f64 0,.int .i64 2,.int .i64 0,.flt .f64 0,.int .i64 2,.int .i64 0,.flt .f64 0,.int .i64 2,.int .i64 0,.flt .f64 0],.int .i64 0,.int .i64 0,.bool false,.int .i64 0,.int .i64 0,.int .i64 0,.int .i64 0,SESS0,.nsl,.vsl 9 3 [.int .i64 2,.int .i64 0,.flt .f64 0,.int .i64 1,.int .i64 0,.flt .f64 0,.int .i64 2,.int .i64 1,.flt .f64 0,.int .i64 2,.int .i64 0,.flt .f64 0,.int .i64 2,.int .i64 0,.flt .f64 0,.int .i64 5,.int .i64 0,.flt .f64 0,.int .i64 2,.int .i64 0,.flt .f64 0,.int .i64 2,.int .i64 0,.flt .f64 0,.int .i64 2,.int .i64 0,.flt .f64 0]],.agg [.int .i64 1,.nsl]]
theorem e14: @ut_ (G G_) Tryz.prog 3000 9 a14 v14=true:=by kernel_rfl
def H_:List (FuncId×List AV×AV):=(9,a14,v14)::G_
theorem h14: @hR_ (G G_) Tryz.prog 9 a14 v14:= @uN_ (G G_) Tryz.prog mox o14 3000 9 a14 v14 e14
theorem o15: @lq_ (G H_) Tryz.prog:=uy_ o14 h14
def a15:List AV:=[.str [105,110]]
def v15:AV:=.tup [.vsl 1 5 [.int .i64 1,.str [105,110],.int .i64 0,.flt .f64 0,.int .i64 0],.int .i64 0,.bool true]
theorem e15: @ut_ (G H_) Tryz.prog 3000 23 a15 v15=true:=by kernel_rfl
def I_:List (FuncId×List AV×AV):=(23,a15,v15)::H_
theorem h15: @hR_ (G H_) Tryz.prog 23 a15 v15:= @uN_ (G H_) Tryz.prog mox o15 3000 23 a15 v15 e15
theorem o16: @lq_ (G I_) Tryz.prog:=uy_ o15 h15
def a16:List AV:=[.str [105,110]]
def v16:AV:=.tup [.agg [.nsl,.nsl],.int .i64 2,.bool false]
theorem e16: @ut_ (G I_) Tryz.prog 3000 12 a16 v16=true:=by kernel_rfl
def J_:List (FuncId×List AV×AV):=(12,a16,v16)::I_
theorem h16: @hR_ (G I_) Tryz.prog 12 a16 v16:= @uN_ (G I_) Tryz.prog mox o16 3000 12 a16 v16 e16
theorem o17: @lq_ (G J_) Tryz.prog:=uy_ o16 h16
def a17:List AV:=[.str [105,110],.int .i64 100]
def v17:AV:=.tup [.agg [.nsl,.nsl,.nsl,.nsl,.int .i64 0,.nsl,.int .i64 0,.nsl,.nsl,.int .i64 0,.int .i64 0,.bool false,.int .i64 0,.int .i64 0,.int .i64 0,.int .i64 0,.nsl,.nsl,.nsl],.int .i64 2,.int .i64 2]
theorem e17: @ut_ (G J_) Tryz.prog 3000 6 a17 v17=true:=by kernel_rfl
def K_:List (FuncId×List AV×AV):=(6,a17,v17)::J_
theorem h17: @hR_ (G J_) Tryz.prog 6 a17 v17:= @uN_ (G J_) Tryz.prog mox o17 3000 6 a17 v17 e17
theorem o18: @lq_ (G K_) Tryz.prog:=uy_ o17 h17
def a18:List AV:=[.agg [VARS2,BODY2,VARS2,CODE2,.int .i64 100,.vsl 9 3 [.int .i64 2,.int .i64 0,.flt .f64 0,.int .i64 1,.int .i64 0,.flt .f64 0,.int .i64 2,.int .i64 1,.flt .f64 0,.int .i64 2,.int .i64 0,.flt .f64 0,.int .i64 2,.int .i64 0,.flt .f64 0,.int .i64 5,.int .i64 0,.flt .f64 0,.int .i64 2,.int .i64 0,.flt .f64 0,.int .i64 2,.int .i64 0,.flt .f64 0,.int .i64 2,.int .i64 0,.flt .f64 0],.int .i64 0,.nsl,.nsl,.int .i64 0,.int .i64 0,.bool true,.int .i64 0,.int .i64 0,.int .i64 0,.int .i64 0,SESS0,.nsl,.vsl 9 3 [.int .i64 2,.int .i64 0,.flt .f64 0,.int .i64 1,.int .i64 0,.flt .f64 0,.int .i64 2,.int .i64 1,.flt .f64 0,.int .i64 2,.int .i64 0,.flt .f64 0,.int .i64 2,.int .i64 0,.flt .f64 0,.int .i64 5,.int .i64 0,.flt .f64 0,.int .i64 2,.int .i64 0,.flt .f64 0,.int .i64 2,.int .i64 0,.flt .f64 0,.int .i64 2,.int .i64 0,.flt .f64 0]]]
def v18:AV:=.bool true
theorem e18: @ut_ (G K_) Tryz.prog 3000 10 a18 v18=true:=by kernel_rfl
def L_:List (FuncId×List AV×AV):=(10,a18,v18)::K_
theorem h18: @hR_ (G K_) Tryz.prog 10 a18 v18:= @uN_ (G K_) Tryz.prog mox o18 3000 10 a18 v18 e18
theorem o19: @lq_ (G L_) Tryz.prog:=uy_ o18 h18
def a19:List AV:=[.agg [VARS2,BODY2,VARS2,CODE2,.int .i64 100,.vsl 9 3 [.int .i64 2,.int .i64 0,.flt .f64 0,.int .i64 1,.int .i64 0,.flt .f64 0,.int .i64 2,.int .i64 1,.flt .f64 0,.int .i64 2,.int .i64 0,.flt .f64 0,.int .i64 2,.int .i64 0,.flt .f64 0,.int .i64 5,.int .i64 0,.flt .f64 0,.int .i64 2,.int .i64 0,.flt .f64 0,.int .i64 2,.int .i64 0,.flt .f64 0,.int .i64 2,.int .i64 0,.flt .f64 0],.int .i64 0,.nsl,.vsl 9 3 [.int .i64 2,.int .i64 0,.flt .f64 0,.int .i64 1,.int .i64 0,.flt .f64 0,.int .i64 2,.int .i64 1,.flt .f64 0,.int .i64 2,.int .i64 0,.flt .f64 0,.int .i64 2,.int .i64 0,.flt .f64 0,.int .i64 5,.int .i64 0,.flt .f64 0,.int .i64 2,.int .i64 0,.flt .f64 0,.int .i64 2,.int .i64 0,.flt .f64 0,.int .i64 2,.int .i64 0,.flt .f64 0],.int .i64 0,.int .i64 0,.bool false,.int .i64 0,.int .i64 0,.int .i64 0,.int .i64 0,SESS0,.nsl,.vsl 9 3 [.int .i64 2,.int .i64 0,.flt .f64 0,.int .i64 1,.int .i64 0,.flt .f64 0,.int .i64 2,.int .i64 1,.flt .f64 0,.int .i64 2,.int .i64 0,.flt .f64 0,.int .i64 2,.int .i64 0,.flt .f64 0,.int .i64 5,.int .i64 0,.flt .f64 0,.int .i64 2,.int .i64 0,.flt .f64 0,.int .i64 2,.int .i64 0,.flt .f64 0,.int .i64 2,.int .i64 0,.flt .f64 0]]]
def v19:AV:=.bool false
theorem e19: @ut_ (G L_) Tryz.prog 3000 10 a19 v19=true:=by kernel_rfl
def M_:List (FuncId×List AV×AV):=(10,a19,v19)::L_
theorem h19: @hR_ (G L_) Tryz.prog 10 a19 v19:= @uN_ (G L_) Tryz.prog mox o19 3000 10 a19 v19 e19
theorem o20: @lq_ (G M_) Tryz.prog:=uy_ o19 h19
def a20:List AV:=[.agg [VARS2,BODY2],CODE2,.int .i64 50]
def v20:AV:=.tup [.agg [VARS2,CODE2,.int .i64 50,.vsl 9 3 [.int .i64 2,.int .i64 0,.flt .f64 0,.int .i64 1,.int .i64 0,.flt .f64 0,.int .i64 2,.int .i64 1,.flt .f64 0,.int .i64 2,.int .i64 0,.flt .f64 0,.int .i64 2,.int .i64 0,.flt .f64 0,.int .i64 5,.int .i64 0,.flt .f64 0,.int .i64 2,.int .i64 0,.flt .f64 0,.int .i64 2,.int .i64 0,.flt .f64 0,.int .i64 2,.int .i64 0,.flt .f64 0],.int .i64 0,.nsl,.nsl,.int .i64 0,.int .i64 0,.bool true,.int .i64 0,.int .i64 0,.int .i64 0],.int .i64 0]
theorem e20: @ut_ (G M_) Tryz.prog 3000 17 a20 v20=true:=by kernel_rfl
def N_:List (FuncId×List AV×AV):=(17,a20,v20)::M_
theorem h20: @hR_ (G M_) Tryz.prog 17 a20 v20:= @uN_ (G M_) Tryz.prog mox o20 3000 17 a20 v20 e20
theorem o21: @lq_ (G N_) Tryz.prog:=uy_ o20 h20
def a21:List AV:=[.str [105,110,32,97,32,58,32,105,110,116,59,32,105,110,32,98,32,58,32,98,111,111,108,59,32,111,117,116,32,111,32,58,32,105,110,116,32,58,61,32,49,44,32,57,59,32,118,97,114,32,110,32,58,32,105,110,116,59,32,118,97,114,32,120,32,58,32,105,110,116,59,32,118,97,114,32,114,32,58,32,114,101,97,108,59,32,118,97,114,32,107,32,58,32,105,110,116,91,51,93,59,32,110,32,58,61,32,110,32,43,32,49,59,32,111,32,58,61,32,120,32,43,32,97,59,32,105,102,32,98,32,116,104,101,110,32,107,91,120,93,32,58,61,32,97,59,32,101,110,100,32,114,32,58,61,32,114,32,43,32,48,46,53,59],.int .i64 50]
def v21:AV:=.tup [.agg [VARS2,BODY2,VARS2,CODE2,.int .i64 50,.vsl 9 3 [.int .i64 2,.int .i64 0,.flt .f64 0,.int .i64 1,.int .i64 0,.flt .f64 0,.int .i64 2,.int .i64 1,.flt .f64 0,.int .i64 2,.int .i64 0,.flt .f64 0,.int .i64 2,.int .i64 0,.flt .f64 0,.int .i64 5,.int .i64 0,.flt .f64 0,.int .i64 2,.int .i64 0,.flt .f64 0,.int .i64 2,.int .i64 0,.flt .f64 0,.int .i64 2,.int .i64 0,.flt .f64 0],.int .i64 0,.nsl,.nsl,.int .i64 0,.int .i64 0,.bool true,.int .i64 0,.int .i64 0,.int .i64 0,.int .i64 0,SESS0,.nsl,.vsl 9 3 [.int .i64 2,.int .i64 0,.flt .f64 0,.int .i64 1,.int .i64 0,.flt .f64 0,.int .i64 2,.int .i64 1,.flt .f64 0,.int .i64 2,.int .i64 0,.flt .f64 0,.int .i64 2,.int .i64 0,.flt .f64 0,.int .i64 5,.int .i64 0,.flt .f64 0,.int .i64 2,.int .i64 0,.flt .f64 0,.int .i64 2,.int .i64 0,.flt .f64 0,.int .i64 2,.int .i64 0,.flt .f64 0]],.int .i64 0,.int .i64 0]
theorem e21: @ut_ (G N_) Tryz.prog 3000 6 a21 v21=true:=by kernel_rfl
def O_:List (FuncId×List AV×AV):=(6,a21,v21)::N_
theorem h21: @hR_ (G N_) Tryz.prog 6 a21 v21:= @uN_ (G N_) Tryz.prog mox o21 3000 6 a21 v21 e21
theorem o22: @lq_ (G O_) Tryz.prog:=uy_ o21 h21
def a22:List AV:=[.agg [VARS2,BODY2,VARS2,CODE2,.int .i64 50,.vsl 9 3 [.int .i64 2,.int .i64 0,.flt .f64 0,.int .i64 1,.int .i64 0,.flt .f64 0,.int .i64 2,.int .i64 1,.flt .f64 0,.int .i64 2,.int .i64 0,.flt .f64 0,.int .i64 2,.int .i64 0,.flt .f64 0,.int .i64 5,.int .i64 0,.flt .f64 0,.int .i64 2,.int .i64 0,.flt .f64 0,.int .i64 2,.int .i64 0,.flt .f64 0,.int .i64 2,.int .i64 0,.flt .f64 0],.int .i64 0,.nsl,.nsl,.int .i64 0,.int .i64 0,.bool true,.int .i64 0,.int .i64 0,.int .i64 0,.int .i64 0,SESS0,.nsl,.vsl 9 3 [.int .i64 2,.int .i64 0,.flt .f64 0,.int .i64 1,.int .i64 0,.flt .f64 0,.int .i64 2,.int .i64 1,.flt .f64 0,.int .i64 2,.int .i64 0,.flt .f64 0,.int .i64 2,.int .i64 0,.flt .f64 0,.int .i64 5,.int .i64 0,.flt .f64 0,.int .i64 2,.int .i64 0,.flt .f64 0,.int .i64 2,.int .i64 0,.flt .f64 0,.int .i64 2,.int .i64 0,.flt .f64 0]],.agg [.int .i64 2,.int .i64 0,.int .i64 0,.nsl,.int .i64 0,.int .i64 0,.flt .f64 0]]
def v22:AV:=.tup [.agg [VARS2,BODY2,VARS2,CODE2,.int .i64 50,.vsl 9 3 [.int .i64 2,.int .i64 0,.flt .f64 0,.int .i64 1,.int .i64 0,.flt .f64 0,.int .i64 2,.int .i64 1,.flt .f64 0,.int .i64 2,.int .i64 0,.flt .f64 0,.int .i64 2,.int .i64 0,.flt .f64 0,.int .i64 5,.int .i64 0,.flt .f64 0,.int .i64 2,.int .i64 0,.flt .f64 0,.int .i64 2,.int .i64 0,.flt .f64 0,.int .i64 2,.int .i64 0,.flt .f64 0],.int .i64 0,.nsl,.nsl,.int .i64 0,.int .i64 0,.bool true,.int .i64 0,.int .i64 0,.int .i64 0,.int .i64 0,.vsl 4 8 [.bool true,.int .i64 0,.nsl,.bool false,.nsl,.nsl,.nsl,.int .i64 0,.bool false,.int .i64 0,.nsl,.bool false,.nsl,.nsl,.nsl,.int .i64 0,.bool false,.int .i64 0,.nsl,.bool false,.nsl,.nsl,.nsl,.int .i64 0,.bool false,.int .i64 0,.nsl,.bool false,.nsl,.nsl,.nsl,.int .i64 0],.nsl,.vsl 9 3 [.int .i64 2,.int .i64 0,.flt .f64 0,.int .i64 1,.int .i64 0,.flt .f64 0,.int .i64 2,.int .i64 1,.flt .f64 0,.int .i64 2,.int .i64 0,.flt .f64 0,.int .i64 2,.int .i64 0,.flt .f64 0,.int .i64 5,.int .i64 0,.flt .f64 0,.int .i64 2,.int .i64 0,.flt .f64 0,.int .i64 2,.int .i64 0,.flt .f64 0,.int .i64 2,.int .i64 0,.flt .f64 0]],.agg [.int .i64 0,.nsl]]
theorem e22: @ut_ (G O_) Tryz.prog 3000 9 a22 v22=true:=by kernel_rfl
def P_:List (FuncId×List AV×AV):=(9,a22,v22)::O_
theorem h22: @hR_ (G O_) Tryz.prog 9 a22 v22:= @uN_ (G O_) Tryz.prog mox o22 3000 9 a22 v22 e22
theorem o23: @lq_ (G P_) Tryz.prog:=uy_ o22 h22
def a23:List AV:=[.agg [VARS2,BODY2,VARS2,CODE2,.int .i64 50,.vsl 9 3 [.int .i64 2,.int .i64 0,.flt .f64 0,.int .i64 1,.int .i64 0,.flt .f64 0,.int .i64 2,.int .i64 1,.flt .f64 0,.int .i64 2,.int .i64 0,.flt .f64 0,.int .i64 2,.int .i64 0,.flt .f64 0,.int .i64 5,.int .i64 0,.flt .f64 0,.int .i64 2,.int .i64 0,.flt .f64 0,.int .i64 2,.int .i64 0,.flt .f64 0,.int .i64 2,.int .i64 0,.flt .f64 0],.int .i64 0,.nsl,.nsl,.int .i64 0,.int .i64 0,.bool true,.int .i64 0,.int .i64 0,.int .i64 0,.int .i64 0,.vsl 4 8 [.bool true,.int .i64 0,.nsl,.bool false,.nsl,.nsl,.nsl,.int .i64 0,.bool false,.int .i64 0,.nsl,.bool false,.nsl,.nsl,.nsl,.int .i64 0,.bool false,.int .i64 0,.nsl,.bool false,.nsl,.nsl,.nsl,.int .i64 0,.bool false,.int .i64 0,.nsl,.bool false,.nsl,.nsl,.nsl,.int .i64 0],.nsl,.vsl 9 3 [.int .i64 2,.int .i64 0,.flt .f64 0,.int .i64 1,.int .i64 0,.flt .f64 0,.int .i64 2,.int .i64 1,.flt .f64 0,.int .i64 2,.int .i64 0,.flt .f64 0,.int .i64 2,.int .i64 0,.flt .f64 0,.int .i64 5,.int .i64 0,.flt .f64 0,.int .i64 2,.int .i64 0,.flt .f64 0,.int .i64 2,.int .i64 0,.flt .f64 0,.int .i64 2,.int .i64 0,.flt .f64 0]],.agg [.int .i64 2,.int .i64 1,.int .i64 0,.nsl,.int .i64 0,.int .i64 0,.flt .f64 0]]
def v23:AV:=.tup [.agg [VARS2,BODY2,VARS2,CODE2,.int .i64 50,.vsl 9 3 [.int .i64 2,.int .i64 0,.flt .f64 0,.int .i64 1,.int .i64 0,.flt .f64 0,.int .i64 2,.int .i64 1,.flt .f64 0,.int .i64 2,.int .i64 0,.flt .f64 0,.int .i64 2,.int .i64 0,.flt .f64 0,.int .i64 5,.int .i64 0,.flt .f64 0,.int .i64 2,.int .i64 0,.flt .f64 0,.int .i64 2,.int .i64 0,.flt .f64 0,.int .i64 2,.int .i64 0,.flt .f64 0],.int .i64 0,.nsl,.nsl,.int .i64 0,.int .i64 0,.bool true,.int .i64 0,.int .i64 0,.int .i64 0,.int .i64 0,.vsl 4 8 [.bool true,.int .i64 0,.nsl,.bool false,.nsl,.nsl,.nsl,.int .i64 0,.bool true,.int .i64 0,.nsl,.bool false,.nsl,.nsl,.nsl,.int .i64 0,.bool false,.int .i64 0,.nsl,.bool false,.nsl,.nsl,.nsl,.int .i64 0,.bool false,.int .i64 0,.nsl,.bool false,.nsl,.nsl,.nsl,.int .i64 0],.nsl,.vsl 9 3 [.int .i64 2,.int .i64 0,.flt .f64 0,.int .i64 1,.int .i64 0,.flt .f64 0,.int .i64 2,.int .i64 1,.flt .f64 0,.int .i64 2,.int .i64 0,.flt .f64 0,.int .i64 2,.int .i64 0,.flt .f64 0,.int .i64 5,.int .i64 0,.flt .f64 0,.int .i64 2,.int .i64 0,.flt .f64 0,.int .i64 2,.int .i64 0,.flt .f64 0,.int .i64 2,.int .i64 0,.flt .f64 0]],.agg [.int .i64 0,.nsl]]
theorem e23: @ut_ (G P_) Tryz.prog 3000 9 a23 v23=true:=by kernel_rfl
def Q_:List (FuncId×List AV×AV):=(9,a23,v23)::P_
theorem h23: @hR_ (G P_) Tryz.prog 9 a23 v23:= @uN_ (G P_) Tryz.prog mox o23 3000 9 a23 v23 e23
theorem o24: @lq_ (G Q_) Tryz.prog:=uy_ o23 h23
def a24:List AV:=[.agg [VARS2,BODY2,VARS2,CODE2,.int .i64 50,.vsl 9 3 [.int .i64 2,.int .i64 0,.flt .f64 0,.int .i64 1,.int .i64 0,.flt .f64 0,.int .i64 2,.int .i64 1,.flt .f64 0,.int .i64 2,.int .i64 0,.flt .f64 0,.int .i64 2,.int .i64 0,.flt .f64 0,.int .i64 5,.int .i64 0,.flt .f64 0,.int .i64 2,.int .i64 0,.flt .f64 0,.int .i64 2,.int .i64 0,.flt .f64 0,.int .i64 2,.int .i64 0,.flt .f64 0],.int .i64 0,.nsl,.nsl,.int .i64 0,.int .i64 0,.bool true,.int .i64 0,.int .i64 0,.int .i64 0,.int .i64 0,.vsl 4 8 [.bool true,.int .i64 0,.nsl,.bool false,.nsl,.nsl,.nsl,.int .i64 0,.bool true,.int .i64 0,.nsl,.bool false,.nsl,.nsl,.nsl,.int .i64 0,.bool false,.int .i64 0,.nsl,.bool false,.nsl,.nsl,.nsl,.int .i64 0,.bool false,.int .i64 0,.nsl,.bool false,.nsl,.nsl,.nsl,.int .i64 0],.nsl,.vsl 9 3 [.int .i64 2,.int .i64 0,.flt .f64 0,.int .i64 1,.int .i64 0,.flt .f64 0,.int .i64 2,.int .i64 1,.flt .f64 0,.int .i64 2,.int .i64 0,.flt .f64 0,.int .i64 2,.int .i64 0,.flt .f64 0,.int .i64 5,.int .i64 0,.flt .f64 0,.int .i64 2,.int .i64 0,.flt .f64 0,.int .i64 2,.int .i64 0,.flt .f64 0,.int .i64 2,.int .i64 0,.flt .f64 0]],.agg [.int .i64 2,.int .i64 2,.int .i64 0,.nsl,.int .i64 0,.int .i64 0,.flt .f64 0]]
def v24:AV:=.tup [.agg [VARS2,BODY2,VARS2,CODE2,.int .i64 50,.vsl 9 3 [.int .i64 2,.int .i64 0,.flt .f64 0,.int .i64 1,.int .i64 0,.flt .f64 0,.int .i64 2,.int .i64 1,.flt .f64 0,.int .i64 2,.int .i64 0,.flt .f64 0,.int .i64 2,.int .i64 0,.flt .f64 0,.int .i64 5,.int .i64 0,.flt .f64 0,.int .i64 2,.int .i64 0,.flt .f64 0,.int .i64 2,.int .i64 0,.flt .f64 0,.int .i64 2,.int .i64 0,.flt .f64 0],.int .i64 0,.nsl,.nsl,.int .i64 0,.int .i64 0,.bool true,.int .i64 0,.int .i64 0,.int .i64 0,.int .i64 0,.vsl 4 8 [.bool true,.int .i64 0,.nsl,.bool false,.nsl,.nsl,.nsl,.int .i64 0,.bool true,.int .i64 0,.nsl,.bool false,.nsl,.nsl,.nsl,.int .i64 0,.bool true,.int .i64 0,.nsl,.bool false,.nsl,.nsl,.nsl,.int .i64 0,.bool false,.int .i64 0,.nsl,.bool false,.nsl,.nsl,.nsl,.int .i64 0],.nsl,.vsl 9 3 [.int .i64 2,.int .i64 0,.flt .f64 0,.int .i64 1,.int .i64 0,.flt .f64 0,.int .i64 2,.int .i64 1,.flt .f64 0,.int .i64 2,.int .i64 0,.flt .f64 0,.int .i64 2,.int .i64 0,.flt .f64 0,.int .i64 5,.int .i64 0,.flt .f64 0,.int .i64 2,.int .i64 0,.flt .f64 0,.int .i64 2,.int .i64 0,.flt .f64 0,.int .i64 2,.int .i64 0,.flt .f64 0]],.agg [.int .i64 0,.nsl]]
theorem e24: @ut_ (G Q_) Tryz.prog 3000 9 a24 v24=true:=by kernel_rfl
def R_:List (FuncId×List AV×AV):=(9,a24,v24)::Q_
theorem h24: @hR_ (G Q_) Tryz.prog 9 a24 v24:= @uN_ (G Q_) Tryz.prog mox o24 3000 9 a24 v24 e24
theorem o25: @lq_ (G R_) Tryz.prog:=uy_ o24 h24
def a25:List AV:=[.agg [VARS2,BODY2,VARS2,CODE2,.int .i64 50,.vsl 9 3 [.int .i64 2,.int .i64 0,.flt .f64 0,.int .i64 1,.int .i64 0,.flt .f64 0,.int .i64 2,.int .i64 1,.flt .f64 0,.int .i64 2,.int .i64 0,.flt .f64 0,.int .i64 2,.int .i64 0,.flt .f64 0,.int .i64 5,.int .i64 0,.flt .f64 0,.int .i64 2,.int .i64 0,.flt .f64 0,.int .i64 2,.int .i64 0,.flt .f64 0,.int .i64 2,.int .i64 0,.flt .f64 0],.int .i64 0,.nsl,.nsl,.int .i64 0,.int .i64 0,.bool true,.int .i64 0,.int .i64 0,.int .i64 0,.int .i64 0,.vsl 4 8 [.bool true,.int .i64 0,.nsl,.bool false,.nsl,.nsl,.nsl,.int .i64 0,.bool true,.int .i64 0,.nsl,.bool false,.nsl,.nsl,.nsl,.int .i64 0,.bool true,.int .i64 0,.nsl,.bool false,.nsl,.nsl,.nsl,.int .i64 0,.bool false,.int .i64 0,.nsl,.bool false,.nsl,.nsl,.nsl,.int .i64 0],.nsl,.vsl 9 3 [.int .i64 2,.int .i64 0,.flt .f64 0,.int .i64 1,.int .i64 0,.flt .f64 0,.int .i64 2,.int .i64 1,.flt .f64 0,.int .i64 2,.int .i64 0,.flt .f64 0,.int .i64 2,.int .i64 0,.flt .f64 0,.int .i64 5,.int .i64 0,.flt .f64 0,.int .i64 2,.int .i64 0,.flt .f64 0,.int .i64 2,.int .i64 0,.flt .f64 0,.int .i64 2,.int .i64 0,.flt .f64 0]],.agg [.int .i64 2,.int .i64 3,.int .i64 0,.nsl,.int .i64 0,.int .i64 0,.flt .f64 0]]
def v25:AV:=.tup [.agg [VARS2,BODY2,VARS2,CODE2,.int .i64 50,.vsl 9 3 [.int .i64 2,.int .i64 0,.flt .f64 0,.int .i64 1,.int .i64 0,.flt .f64 0,.int .i64 2,.int .i64 1,.flt .f64 0,.int .i64 2,.int .i64 0,.flt .f64 0,.int .i64 2,.int .i64 0,.flt .f64 0,.int .i64 5,.int .i64 0,.flt .f64 0,.int .i64 2,.int .i64 0,.flt .f64 0,.int .i64 2,.int .i64 0,.flt .f64 0,.int .i64 2,.int .i64 0,.flt .f64 0],.int .i64 0,.nsl,.nsl,.int .i64 0,.int .i64 0,.bool true,.int .i64 0,.int .i64 0,.int .i64 0,.int .i64 0,.vsl 4 8 [.bool true,.int .i64 0,.nsl,.bool false,.nsl,.nsl,.nsl,.int .i64 0,.bool true,.int .i64 0,.nsl,.bool false,.nsl,.nsl,.nsl,.int .i64 0,.bool true,.int .i64 0,.nsl,.bool false,.nsl,.nsl,.nsl,.int .i64 0,.bool true,.int .i64 0,.nsl,.bool false,.nsl,.nsl,.nsl,.int .i64 0],.nsl,.vsl 9 3 [.int .i64 2,.int .i64 0,.flt .f64 0,.int .i64 1,.int .i64 0,.flt .f64 0,.int .i64 2,.int .i64 1,.flt .f64 0,.int .i64 2,.int .i64 0,.flt .f64 0,.int .i64 2,.int .i64 0,.flt .f64 0,.int .i64 5,.int .i64 0,.flt .f64 0,.int .i64 2,.int .i64 0,.flt .f64 0,.int .i64 2,.int .i64 0,.flt .f64 0,.int .i64 2,.int .i64 0,.flt .f64 0]],.agg [.int .i64 0,.nsl]]
theorem e25: @ut_ (G R_) Tryz.prog 3000 9 a25 v25=true:=by kernel_rfl
def l26:List (FuncId×List AV×AV):=(9,a25,v25)::R_
theorem h25: @hR_ (G R_) Tryz.prog 9 a25 v25:= @uN_ (G R_) Tryz.prog mox o25 3000 9 a25 v25 e25
theorem o26: @lq_ (G l26) Tryz.prog:=uy_ o25 h25
end Bel
theorem kl5:hR_ Tryz.prog 5 [] (.bool true):= @uN_ (Bel.G Bel.l26) Tryz.prog mox Bel.o26 3000 5 [] (.bool true) (by kernel_rfl)
def cellsOf:AV->List AV
 | .tup (.agg c::_)=>c
 |_=>[]
def U0:List AV:=cellsOf Bel.v21
def U1:List AV:=cellsOf Bel.v22
def U2:List AV:=cellsOf Bel.v23
def U3:List AV:=cellsOf Bel.v24
theorem kl6:hR_ Tryz.prog 6 Bel.a21 (.tup [.agg U0,jI 0,jI 0]):=Bel.h21
theorem ko0:hR_ Tryz.prog 9 Bel.a22 (.tup [.agg U1,D0]):=Bel.h22
theorem ko1:hR_ Tryz.prog 9 Bel.a23 (.tup [.agg U2,D0]):=Bel.h23
theorem ko2:hR_ Tryz.prog 9 Bel.a24 (.tup [.agg U3,D0]):=Bel.h24
theorem ko3:hR_ Tryz.prog 9 Bel.a25 (.tup [.agg (UL (jI 0) (.bool true,jI 0) (.bool true,jI 0) (.bool true,jI 0) (.bool true,jI 0)),D0]):=Bel.h25
end Go.Proofs.YtaamplmpnmegdaaGreatDoor.vars
set_option maxRecDepth 100000
set_option linter.unusedVariables false
set_option linter.unusedSimpArgs false
namespace Go.Proofs.YtaamplmpnmegdaaGreatDoor.vars
open Go Go.Sx
def f_ (n:Nat):List AV:=[.int .u16 (n:Int)]
theorem T_ (n:Nat):(f_ n).length=1:=rfl
theorem A_ (n:Nat):okL (f_ n)=true:=rfl
structure A4 where
 a:UInt8
 b:UInt8
 c:UInt8
 d:UInt8
abbrev g_ (x:A4):List AV:=[.int .u8 (x.a.toNat:Int),.int .u8 (x.b.toNat:Int),.int .u8 (x.c.toNat:Int),.int .u8 (x.d.toNat:Int)]
theorem y_ {α:Type} {enc:α->List AV} {p:List AV->Prop} {q:α->Prop} (h:∀r,p r->∃a,r=enc a/\q a):∀rows:List (List AV),(∀r,r∈rows->p r)->∃l:List α,rows.flatten=h6_ enc l/\l.length=rows.length/\∀a,a∈l->q a
 |[],_=>⟨[],rfl,rfl,λa h=>by cases h⟩
 |r::rows,hr=>by obtain ⟨a,rfl,ha⟩:=h r (hr r (List.mem_cons_self ..));obtain ⟨l,h1,h2,h3⟩:=y_ h rows λr h=>hr r (List.mem_cons_of_mem _ h);refine ⟨a::l,by rw [List.flatten_cons,h1];rfl,by simp [h2],λb hb=>?_⟩;rcases List.mem_cons.1 hb with rfl|hb;exact ha;exact h3 b hb
theorem t_ {r:List AV} (h:Sx.Fit Tryz.prog 61 r):∃c:Nat,r=f_ c/\c<65536:=by
 obtain ⟨n,rfl,hn⟩:=s8_ Tryz.underlying61 h;have hn:0<=n/\n<=65535:=by simpa [Lit.wf,IntKind.min,IntKind.max,IntKind.bits,IntKind.signed]using hn
 refine ⟨n.toNat,?_,by omega⟩;unfold f_;rw [Int.toNat_of_nonneg hn.1]
theorem s_ {r:List AV} (h:Sx.Fit Tryz.prog 5 r):∃c:UInt8,r=[.int .u8 (c.toNat:Int)]:=by
 obtain ⟨n,rfl,hn⟩:=s8_ Tryz.underlying5 h;have hn:0<=n/\n<=255:=by simpa [Lit.wf,IntKind.min,IntKind.max,IntKind.bits,IntKind.signed]using hn
 refine ⟨n.toNat.toUInt8,?_⟩;have:((n.toNat.toUInt8).toNat:Int)=n:=by have h1:n.toNat.toUInt8.toNat=n.toNat:=(by simp only [Nat.toUInt8,UInt8.toNat_ofNat'];omega);rw [h1];omega
 rw [this]
theorem z_ {r:List AV} (h:Sx.Fit Tryz.prog 57 r):∃x:A4,r=g_ x:=by
 obtain ⟨parts,rfl,h1,h2⟩:=r2_ Tryz.underlying57 h
 match parts,h1,h2 with
 |[a,b,c,d],_,h2=>obtain ⟨a,rfl⟩:=s_ (h2 a (by simp));obtain ⟨b,rfl⟩:=s_ (h2 b (by simp));obtain ⟨c,rfl⟩:=s_ (h2 c (by simp));obtain ⟨d,rfl⟩:=s_ (h2 d (by simp));exact ⟨⟨a,b,c,d⟩,rfl⟩
theorem arg_a4 {H:Type} {enc:TypeId×Value->H} {W:World} {base:Nat} {v:Value} {dd:DataW H} {p ps:List MemPlace} (hok:Value.okWide Tryz.prog W .any base 57 v)
  (h:DataW.Trod enc Tryz.prog W 0 (λ_=>true) true 57 v dd p):∃x:A4,Con (lN_ (ii_ W ps)) (.agg (g_ x)) v:=by
 simp only [Value.okWide,Tryz.underlying57]at hok;obtain ⟨cs,rfl,_⟩:=hok;obtain ⟨rs,h1,h2,h3⟩:=uh_ (d:=5) (base:=0) (by kernel_rfl) h;obtain ⟨x,rfl⟩:=z_ h1;exact ⟨x,h3 _⟩
theorem arg_u16s {H:Type} {enc:TypeId×Value->H} {W:World} {base:Nat} {v:Value} {dd:DataW H} {p ps:List MemPlace} (hok:Value.okWide Tryz.prog W .any base 58 v)
  (h:DataW.Trod enc Tryz.prog W 0 (λ_=>true) true 58 v dd p) (hps:∀q,q∈p->q∈ps):∃(l:List Nat) (a:AV),SlV f_ 1 l a/\(∀v∈l,v<65536)/\l.length<=maxLen/\Con (lN_ (ii_ W ps)) a v:=by
 rcases t4_ (d:=5) Tryz.underlying58 (by kernel_rfl) hok h hps with rfl|⟨rows,h1,h2,h3,h4⟩;exact ⟨[],.nsl,.inr ⟨rfl,rfl⟩,λv h=>(by cases h),Nat.zero_le _,by simp only [Con]⟩;obtain ⟨l,k1,k2,k3⟩:=y_ (enc:=f_) (q:=λn=>n<65536) (λr hr=>t_ hr) rows h1;have hc:Tryz.prog.cellsOf 61=1:=(by kernel_rfl);refine ⟨l,ph_ f_ 1 l,.inl rfl,k3,by omega,?_⟩;have h4':=h4;rw [k1,hc,←k2]at h4';exact h4'
end Go.Proofs.YtaamplmpnmegdaaGreatDoor.vars
set_option maxRecDepth 100000
set_option linter.unusedVariables false
set_option linter.unusedSimpArgs false
namespace Go.Proofs.YtaamplmpnmegdaaGreatDoor.vars
open Go Go.Sx
def c4:VC:=⟨⟨[],[]⟩,[(5,[none]),(6,[(some 19),none,none]),(9,[(some 19),(some 2)])],[(2,[⟨[(9,.ptr 3 0),(5,.ptr 1 0),(8,.ptr 2 0),(12,.slx 0 0 0),(2,.ptr 0 0),(11,.slx 1 0 0),(1,68)],[(3,[.slx 2 0 0,.slx 3 0 0,.slx 4 0 0,.slx 5 0 0]),(1,[.slx 6 0 0,.slx 7 0 0,.slx 8 0 0,.slx 9 0 0,.slx 10 0 0,.slx 11 0 0,.slx 12 0 0,.slx 13 0 0,.slx 14 0 0,.slx 15 0 0,.slx 16 0 0,.slx 17 0 0,.slx 18 0 0,.slx 19 0 0,.slx 20 0 0,.slx 21 0 0,.slx 22 0 0,.slx 23 0 0,.slx 24 0 0]),(2,[.slx 25 0 0,.slx 26 0 0,.slx 27 0 0,.slx 28 0 0]),(0,[64,65,66,67])],4,29,[],[],[]⟩]),(4,[⟨[(2,.ptr 0 0),(12,.slx 0 0 0),(8,.ptr 2 0),(5,.ptr 1 0),(11,.slx 1 0 0),(9,.ptr 3 0),(14,J 0),(1,68)],[(3,[.slx 2 0 0,.slx 3 0 0,.slx 4 0 0,.slx 5 0 0]),(1,[.slx 6 0 0,.slx 7 0 0,.slx 8 0 0,.slx 9 0 0,.slx 10 0 0,.slx 11 0 0,.slx 12 0 0,.slx 13 0 0,.slx 14 0 0,.slx 15 0 0,.slx 16 0 0,.slx 17 0 0,.slx 18 0 0,.slx 19 0 0,.slx 20 0 0,.slx 21 0 0,.slx 22 0 0,.slx 23 0 0,.slx 24 0 0]),(2,[.slx 25 0 0,.slx 26 0 0,.slx 27 0 0,.slx 28 0 0]),(0,[64,65,66,67])],4,29,[],[],[]⟩,⟨[(2,.ptr 0 0),(12,.slx 0 0 0),(8,.ptr 2 0),(5,.ptr 1 0),(11,.slx 1 0 0),(9,.ptr 3 0),(14,J 1),(1,68)],[(3,[.slx 2 0 0,.slx 3 0 0,.slx 4 0 0,.slx 5 0 0]),(1,[.slx 6 0 0,.slx 7 0 0,.slx 8 0 0,.slx 9 0 0,.slx 10 0 0,.slx 11 0 0,.slx 12 0 0,.slx 13 0 0,.slx 14 0 0,.slx 15 0 0,.slx 16 0 0,.slx 17 0 0,.slx 18 0 0,.slx 19 0 0,.slx 20 0 0,.slx 21 0 0,.slx 22 0 0,.slx 23 0 0,.slx 24 0 0]),(2,[.slx 25 0 0,.slx 26 0 0,.slx 27 0 0,.slx 28 0 0]),(0,[64,65,66,67])],4,29,[],[],[]⟩,⟨[(2,.ptr 0 0),(12,.slx 0 0 0),(8,.ptr 2 0),(5,.ptr 1 0),(11,.slx 1 0 0),(9,.ptr 3 0),(14,J 2),(1,68)],[(3,[.slx 2 0 0,.slx 3 0 0,.slx 4 0 0,.slx 5 0 0]),(1,[.slx 6 0 0,.slx 7 0 0,.slx 8 0 0,.slx 9 0 0,.slx 10 0 0,.slx 11 0 0,.slx 12 0 0,.slx 13 0 0,.slx 14 0 0,.slx 15 0 0,.slx 16 0 0,.slx 17 0 0,.slx 18 0 0,.slx 19 0 0,.slx 20 0 0,.slx 21 0 0,.slx 22 0 0,.slx 23 0 0,.slx 24 0 0]),(2,[.slx 25 0 0,.slx 26 0 0,.slx 27 0 0,.slx 28 0 0]),(0,[64,65,66,67])],4,29,[],[],[]⟩,⟨[(2,.ptr 0 0),(12,.slx 0 0 0),(8,.ptr 2 0),(5,.ptr 1 0),(11,.slx 1 0 0),(9,.ptr 3 0),(14,J 3),(1,68)],[(3,[.slx 2 0 0,.slx 3 0 0,.slx 4 0 0,.slx 5 0 0]),(1,[.slx 6 0 0,.slx 7 0 0,.slx 8 0 0,.slx 9 0 0,.slx 10 0 0,.slx 11 0 0,.slx 12 0 0,.slx 13 0 0,.slx 14 0 0,.slx 15 0 0,.slx 16 0 0,.slx 17 0 0,.slx 18 0 0,.slx 19 0 0,.slx 20 0 0,.slx 21 0 0,.slx 22 0 0,.slx 23 0 0,.slx 24 0 0]),(2,[.slx 25 0 0,.slx 26 0 0,.slx 27 0 0,.slx 28 0 0]),(0,[64,65,66,67])],4,29,[],[],[]⟩,⟨[(2,.ptr 0 0),(12,.slx 0 0 0),(8,.ptr 2 0),(5,.ptr 1 0),(11,.slx 1 0 0),(9,.ptr 3 0),(14,J 4),(1,68)],[(3,[.slx 2 0 0,.slx 3 0 0,.slx 4 0 0,.slx 5 0 0]),(1,[.slx 6 0 0,.slx 7 0 0,.slx 8 0 0,.slx 9 0 0,.slx 10 0 0,.slx 11 0 0,.slx 12 0 0,.slx 13 0 0,.slx 14 0 0,.slx 15 0 0,.slx 16 0 0,.slx 17 0 0,.slx 18 0 0,.slx 19 0 0,.slx 20 0 0,.slx 21 0 0,.slx 22 0 0,.slx 23 0 0,.slx 24 0 0]),(2,[.slx 25 0 0,.slx 26 0 0,.slx 27 0 0,.slx 28 0 0]),(0,[64,65,66,67])],4,29,[],[],[]⟩])],0,true,[]⟩
def b0:VT:=.ite 261 (Li (.bin .sub 2 false false) [.sym 237,.sym 238] 265<|Li (.bin .leq 2 false true) [.sym 265,.int .i64 60000] 266<|Li (.len 35) [.sym 258] 267<|It (.bin .neq 3 false true) [.sym 267,.int .i64 4] 268 (.done (.bool false))<|Li (.iaddr 35) [.sym 258,.int .i64 0] 269<|Li (.faddr 67 0) [.sym 269] 270<|Li (.load 4) [.sym 270] 271<|It (.bin .neq 4 false false) [.sym 271,.sym 266] 272 (.done (.bool false))<|Li (.bin .rem 5 false true) [.sym 64,.int .u8 7] 273<|Li (.conv 5 3) [.sym 273] 274<|Li (.bin .rem 3 false true) [.sym 236,.int .i64 7] 275<|It (.bin .eql 3 false false) [.sym 274,.sym 275] 276 (.ite 266 (.call 9 [.agg [.sym 242,.sym 243,.sym 244,.sym 245,.sym 246,.sym 247,.sym 248,.sym 249,.sym 250,.sym 251,.sym 252,.sym 253,.sym 254,.sym 255,.sym 256,.sym 257,.sym 258,.sym 259,.sym 260],.agg [.int .i64 3,.int .i64 0,.int .i64 0,.nsl,.int .i64 0,.int .i64 0,.flt .f64 0]] 277 [(some 19),(some 2)]<|.again 1 1 [.sym 236,.sym 237,.sym 237,.sym 239,.sym 240,.sym 241,.sym 277,.sym 278,.sym 279,.sym 280,.sym 281,.sym 282,.sym 283,.sym 284,.sym 285,.sym 286,.sym 287,.sym 288,.sym 289,.sym 290,.sym 291,.sym 292,.sym 293,.sym 294,.sym 295,.sym 266,.sym 262,.sym 263,.sym 264])<|.again 1 1 [.sym 236,.sym 237,.sym 238,.sym 239,.sym 240,.sym 241,.sym 242,.sym 243,.sym 244,.sym 245,.sym 246,.sym 247,.sym 248,.sym 249,.sym 250,.sym 251,.sym 252,.sym 253,.sym 254,.sym 255,.sym 256,.sym 257,.sym 258,.sym 259,.sym 260,.sym 266,.sym 262,.sym 263,.sym 264])<|.again 1 1 [.sym 236,.sym 237,.sym 238,.sym 239,.sym 240,.sym 241,.sym 242,.sym 243,.sym 244,.sym 245,.sym 246,.sym 247,.sym 248,.sym 249,.sym 250,.sym 251,.sym 252,.sym 253,.sym 254,.sym 255,.sym 256,.sym 257,.sym 258,.sym 259,.sym 260,.sym 266,.sym 262,.sym 263,.sym 264])<|Li (.len 35) [.sym 258] 265<|It (.bin .neq 3 false true) [.sym 265,.int .i64 4] 266 (.done (.bool false))<|Li (.iaddr 35) [.sym 258,.int .i64 0] 267<|Li (.faddr 67 0) [.sym 267] 268<|Li (.load 4) [.sym 268] 269<|It (.bin .neq 4 false false) [.sym 269,.bool false] 270 (.done (.bool false))<|Li (.bin .rem 5 false true) [.sym 64,.int .u8 7] 271<|Li (.conv 5 3) [.sym 271] 272<|Li (.bin .rem 3 false true) [.sym 236,.int .i64 7] 273<|It (.bin .eql 3 false false) [.sym 272,.sym 273] 274 (.again 1 1 [.sym 236,.sym 237,.sym 238,.sym 239,.sym 240,.sym 241,.sym 242,.sym 243,.sym 244,.sym 245,.sym 246,.sym 247,.sym 248,.sym 249,.sym 250,.sym 251,.sym 252,.sym 253,.sym 254,.sym 255,.sym 256,.sym 257,.sym 258,.sym 259,.sym 260,.bool false,.sym 262,.sym 263,.sym 264])<|.again 1 1 [.sym 236,.sym 237,.sym 238,.sym 239,.sym 240,.sym 241,.sym 242,.sym 243,.sym 244,.sym 245,.sym 246,.sym 247,.sym 248,.sym 249,.sym 250,.sym 251,.sym 252,.sym 253,.sym 254,.sym 255,.sym 256,.sym 257,.sym 258,.sym 259,.sym 260,.bool false,.sym 262,.sym 263,.sym 264]
def b1:VT:=.ite 262 (Li (.bin .sub 2 false false) [.sym 237,.sym 239] 265<|Li (.bin .leq 2 false true) [.sym 265,.int .i64 60000] 266<|Li (.len 35) [.sym 258] 267<|It (.bin .neq 3 false true) [.sym 267,.int .i64 4] 268 (.done (.bool false))<|Li (.iaddr 35) [.sym 258,.int .i64 1] 269<|Li (.faddr 67 0) [.sym 269] 270<|Li (.load 4) [.sym 270] 271<|It (.bin .neq 4 false false) [.sym 271,.sym 266] 272 (.done (.bool false))<|Li (.bin .rem 5 false true) [.sym 65,.int .u8 7] 273<|Li (.conv 5 3) [.sym 273] 274<|Li (.bin .rem 3 false true) [.sym 236,.int .i64 7] 275<|It (.bin .eql 3 false false) [.sym 274,.sym 275] 276 (.ite 266 (.call 9 [.agg [.sym 242,.sym 243,.sym 244,.sym 245,.sym 246,.sym 247,.sym 248,.sym 249,.sym 250,.sym 251,.sym 252,.sym 253,.sym 254,.sym 255,.sym 256,.sym 257,.sym 258,.sym 259,.sym 260],.agg [.int .i64 3,.int .i64 1,.int .i64 0,.nsl,.int .i64 0,.int .i64 0,.flt .f64 0]] 277 [(some 19),(some 2)]<|.again 1 2 [.sym 236,.sym 237,.sym 238,.sym 237,.sym 240,.sym 241,.sym 277,.sym 278,.sym 279,.sym 280,.sym 281,.sym 282,.sym 283,.sym 284,.sym 285,.sym 286,.sym 287,.sym 288,.sym 289,.sym 290,.sym 291,.sym 292,.sym 293,.sym 294,.sym 295,.sym 261,.sym 266,.sym 263,.sym 264])<|.again 1 2 [.sym 236,.sym 237,.sym 238,.sym 239,.sym 240,.sym 241,.sym 242,.sym 243,.sym 244,.sym 245,.sym 246,.sym 247,.sym 248,.sym 249,.sym 250,.sym 251,.sym 252,.sym 253,.sym 254,.sym 255,.sym 256,.sym 257,.sym 258,.sym 259,.sym 260,.sym 261,.sym 266,.sym 263,.sym 264])<|.again 1 2 [.sym 236,.sym 237,.sym 238,.sym 239,.sym 240,.sym 241,.sym 242,.sym 243,.sym 244,.sym 245,.sym 246,.sym 247,.sym 248,.sym 249,.sym 250,.sym 251,.sym 252,.sym 253,.sym 254,.sym 255,.sym 256,.sym 257,.sym 258,.sym 259,.sym 260,.sym 261,.sym 266,.sym 263,.sym 264])<|Li (.len 35) [.sym 258] 265<|It (.bin .neq 3 false true) [.sym 265,.int .i64 4] 266 (.done (.bool false))<|Li (.iaddr 35) [.sym 258,.int .i64 1] 267<|Li (.faddr 67 0) [.sym 267] 268<|Li (.load 4) [.sym 268] 269<|It (.bin .neq 4 false false) [.sym 269,.bool false] 270 (.done (.bool false))<|Li (.bin .rem 5 false true) [.sym 65,.int .u8 7] 271<|Li (.conv 5 3) [.sym 271] 272<|Li (.bin .rem 3 false true) [.sym 236,.int .i64 7] 273<|It (.bin .eql 3 false false) [.sym 272,.sym 273] 274 (.again 1 2 [.sym 236,.sym 237,.sym 238,.sym 239,.sym 240,.sym 241,.sym 242,.sym 243,.sym 244,.sym 245,.sym 246,.sym 247,.sym 248,.sym 249,.sym 250,.sym 251,.sym 252,.sym 253,.sym 254,.sym 255,.sym 256,.sym 257,.sym 258,.sym 259,.sym 260,.sym 261,.bool false,.sym 263,.sym 264])<|.again 1 2 [.sym 236,.sym 237,.sym 238,.sym 239,.sym 240,.sym 241,.sym 242,.sym 243,.sym 244,.sym 245,.sym 246,.sym 247,.sym 248,.sym 249,.sym 250,.sym 251,.sym 252,.sym 253,.sym 254,.sym 255,.sym 256,.sym 257,.sym 258,.sym 259,.sym 260,.sym 261,.bool false,.sym 263,.sym 264]
def b2:VT:=.ite 263 (Li (.bin .sub 2 false false) [.sym 237,.sym 240] 265<|Li (.bin .leq 2 false true) [.sym 265,.int .i64 60000] 266<|Li (.len 35) [.sym 258] 267<|It (.bin .neq 3 false true) [.sym 267,.int .i64 4] 268 (.done (.bool false))<|Li (.iaddr 35) [.sym 258,.int .i64 2] 269<|Li (.faddr 67 0) [.sym 269] 270<|Li (.load 4) [.sym 270] 271<|It (.bin .neq 4 false false) [.sym 271,.sym 266] 272 (.done (.bool false))<|Li (.bin .rem 5 false true) [.sym 66,.int .u8 7] 273<|Li (.conv 5 3) [.sym 273] 274<|Li (.bin .rem 3 false true) [.sym 236,.int .i64 7] 275<|It (.bin .eql 3 false false) [.sym 274,.sym 275] 276 (.ite 266 (.call 9 [.agg [.sym 242,.sym 243,.sym 244,.sym 245,.sym 246,.sym 247,.sym 248,.sym 249,.sym 250,.sym 251,.sym 252,.sym 253,.sym 254,.sym 255,.sym 256,.sym 257,.sym 258,.sym 259,.sym 260],.agg [.int .i64 3,.int .i64 2,.int .i64 0,.nsl,.int .i64 0,.int .i64 0,.flt .f64 0]] 277 [(some 19),(some 2)]<|.again 1 3 [.sym 236,.sym 237,.sym 238,.sym 239,.sym 237,.sym 241,.sym 277,.sym 278,.sym 279,.sym 280,.sym 281,.sym 282,.sym 283,.sym 284,.sym 285,.sym 286,.sym 287,.sym 288,.sym 289,.sym 290,.sym 291,.sym 292,.sym 293,.sym 294,.sym 295,.sym 261,.sym 262,.sym 266,.sym 264])<|.again 1 3 [.sym 236,.sym 237,.sym 238,.sym 239,.sym 240,.sym 241,.sym 242,.sym 243,.sym 244,.sym 245,.sym 246,.sym 247,.sym 248,.sym 249,.sym 250,.sym 251,.sym 252,.sym 253,.sym 254,.sym 255,.sym 256,.sym 257,.sym 258,.sym 259,.sym 260,.sym 261,.sym 262,.sym 266,.sym 264])<|.again 1 3 [.sym 236,.sym 237,.sym 238,.sym 239,.sym 240,.sym 241,.sym 242,.sym 243,.sym 244,.sym 245,.sym 246,.sym 247,.sym 248,.sym 249,.sym 250,.sym 251,.sym 252,.sym 253,.sym 254,.sym 255,.sym 256,.sym 257,.sym 258,.sym 259,.sym 260,.sym 261,.sym 262,.sym 266,.sym 264])<|Li (.len 35) [.sym 258] 265<|It (.bin .neq 3 false true) [.sym 265,.int .i64 4] 266 (.done (.bool false))<|Li (.iaddr 35) [.sym 258,.int .i64 2] 267<|Li (.faddr 67 0) [.sym 267] 268<|Li (.load 4) [.sym 268] 269<|It (.bin .neq 4 false false) [.sym 269,.bool false] 270 (.done (.bool false))<|Li (.bin .rem 5 false true) [.sym 66,.int .u8 7] 271<|Li (.conv 5 3) [.sym 271] 272<|Li (.bin .rem 3 false true) [.sym 236,.int .i64 7] 273<|It (.bin .eql 3 false false) [.sym 272,.sym 273] 274 (.again 1 3 [.sym 236,.sym 237,.sym 238,.sym 239,.sym 240,.sym 241,.sym 242,.sym 243,.sym 244,.sym 245,.sym 246,.sym 247,.sym 248,.sym 249,.sym 250,.sym 251,.sym 252,.sym 253,.sym 254,.sym 255,.sym 256,.sym 257,.sym 258,.sym 259,.sym 260,.sym 261,.sym 262,.bool false,.sym 264])<|.again 1 3 [.sym 236,.sym 237,.sym 238,.sym 239,.sym 240,.sym 241,.sym 242,.sym 243,.sym 244,.sym 245,.sym 246,.sym 247,.sym 248,.sym 249,.sym 250,.sym 251,.sym 252,.sym 253,.sym 254,.sym 255,.sym 256,.sym 257,.sym 258,.sym 259,.sym 260,.sym 261,.sym 262,.bool false,.sym 264]
def b3:VT:=.ite 264 (Li (.bin .sub 2 false false) [.sym 237,.sym 241] 265<|Li (.bin .leq 2 false true) [.sym 265,.int .i64 60000] 266<|Li (.len 35) [.sym 258] 267<|It (.bin .neq 3 false true) [.sym 267,.int .i64 4] 268 (.done (.bool false))<|Li (.iaddr 35) [.sym 258,.int .i64 3] 269<|Li (.faddr 67 0) [.sym 269] 270<|Li (.load 4) [.sym 270] 271<|It (.bin .neq 4 false false) [.sym 271,.sym 266] 272 (.done (.bool false))<|Li (.bin .rem 5 false true) [.sym 67,.int .u8 7] 273<|Li (.conv 5 3) [.sym 273] 274<|Li (.bin .rem 3 false true) [.sym 236,.int .i64 7] 275<|It (.bin .eql 3 false false) [.sym 274,.sym 275] 276 (.ite 266 (.call 9 [.agg [.sym 242,.sym 243,.sym 244,.sym 245,.sym 246,.sym 247,.sym 248,.sym 249,.sym 250,.sym 251,.sym 252,.sym 253,.sym 254,.sym 255,.sym 256,.sym 257,.sym 258,.sym 259,.sym 260],.agg [.int .i64 3,.int .i64 3,.int .i64 0,.nsl,.int .i64 0,.int .i64 0,.flt .f64 0]] 277 [(some 19),(some 2)]<|.again 1 4 [.sym 236,.sym 237,.sym 238,.sym 239,.sym 240,.sym 237,.sym 277,.sym 278,.sym 279,.sym 280,.sym 281,.sym 282,.sym 283,.sym 284,.sym 285,.sym 286,.sym 287,.sym 288,.sym 289,.sym 290,.sym 291,.sym 292,.sym 293,.sym 294,.sym 295,.sym 261,.sym 262,.sym 263,.sym 266])<|.again 1 4 [.sym 236,.sym 237,.sym 238,.sym 239,.sym 240,.sym 241,.sym 242,.sym 243,.sym 244,.sym 245,.sym 246,.sym 247,.sym 248,.sym 249,.sym 250,.sym 251,.sym 252,.sym 253,.sym 254,.sym 255,.sym 256,.sym 257,.sym 258,.sym 259,.sym 260,.sym 261,.sym 262,.sym 263,.sym 266])<|.again 1 4 [.sym 236,.sym 237,.sym 238,.sym 239,.sym 240,.sym 241,.sym 242,.sym 243,.sym 244,.sym 245,.sym 246,.sym 247,.sym 248,.sym 249,.sym 250,.sym 251,.sym 252,.sym 253,.sym 254,.sym 255,.sym 256,.sym 257,.sym 258,.sym 259,.sym 260,.sym 261,.sym 262,.sym 263,.sym 266])<|Li (.len 35) [.sym 258] 265<|It (.bin .neq 3 false true) [.sym 265,.int .i64 4] 266 (.done (.bool false))<|Li (.iaddr 35) [.sym 258,.int .i64 3] 267<|Li (.faddr 67 0) [.sym 267] 268<|Li (.load 4) [.sym 268] 269<|It (.bin .neq 4 false false) [.sym 269,.bool false] 270 (.done (.bool false))<|Li (.bin .rem 5 false true) [.sym 67,.int .u8 7] 271<|Li (.conv 5 3) [.sym 271] 272<|Li (.bin .rem 3 false true) [.sym 236,.int .i64 7] 273<|It (.bin .eql 3 false false) [.sym 272,.sym 273] 274 (.again 1 4 [.sym 236,.sym 237,.sym 238,.sym 239,.sym 240,.sym 241,.sym 242,.sym 243,.sym 244,.sym 245,.sym 246,.sym 247,.sym 248,.sym 249,.sym 250,.sym 251,.sym 252,.sym 253,.sym 254,.sym 255,.sym 256,.sym 257,.sym 258,.sym 259,.sym 260,.sym 261,.sym 262,.sym 263,.bool false])<|.again 1 4 [.sym 236,.sym 237,.sym 238,.sym 239,.sym 240,.sym 241,.sym 242,.sym 243,.sym 244,.sym 245,.sym 246,.sym 247,.sym 248,.sym 249,.sym 250,.sym 251,.sym 252,.sym 253,.sym 254,.sym 255,.sym 256,.sym 257,.sym 258,.sym 259,.sym 260,.sym 261,.sym 262,.sym 263,.bool false]
def b4:VT:=
 (K Q1 [.sym 236,.int .i64 1] 265
       (.again 0 0 [.sym 265,.sym 237,.sym 238,.sym 239,.sym 240,.sym 241,.sym 242,.sym 243,.sym 244,.sym 245,.sym 246,.sym 247,.sym 248,.sym 249,.sym 250,.sym 251,.sym 252,.sym 253,.sym 254,.sym 255,.sym 256,.sym 257,.sym 258,.sym 259,.sym 260,.sym 261,.sym 262,.sym 263,.sym 264]))
def t4:VT:=
 (.call 5 [] 69 [none]
 (K Q3 [69] 70
 (.ite 70
 (.done (.bool false))
 (K (.len 58) [68] 71
 (K Qe [71,J 20] 72
 (.ite 72
 (.done (.bool true))
 (.call 6 [.str [105,110,32,97,32,58,32,105,110,116,59,32,105,110,32,98,32,58,32,98,111,111,108,59,32,111,117,116,32,111,32,58,32,105,110,116,32,58,61,32,49,44,32,57,59,32,118,97,114,32,110,32,58,32,105,110,116,59,32,118,97,114,32,120,32,58,32,105,110,116,59,32,118,97,114,32,114,32,58,32,114,101,97,108,59,32,118,97,114,32,107,32,58,32,105,110,116,91,51,93,59,32,110,32,58,61,32,110,32,43,32,49,59,32,111,32,58,61,32,120,32,43,32,97,59,32,105,102,32,98,32,116,104,101,110,32,107,91,120,93,32,58,61,32,97,59,32,101,110,100,32,114,32,58,61,32,114,32,43,32,48,46,53,59],J 50] 73 [(some 19),none,none]
 (K Q0 [93,J 0] 94
 (.ite 94
 (.done (.bool false))
 (.call 9 [.agg [73,74,75,76,77,78,79,80,81,82,83,84,85,86,87,88,89,90,91],.agg [J 2,J 0,J 0,.nsl,J 0,J 0,.flt .f64 0]] 95 [(some 19),(some 2)]
 (.call 9 [.agg [95,96,97,98,99,100,101,102,103,104,105,106,107,108,109,110,111,112,113],.agg [J 2,J 1,J 0,.nsl,J 0,J 0,.flt .f64 0]] 116 [(some 19),(some 2)]
 (.call 9 [.agg [116,117,118,119,120,121,122,123,124,125,126,127,128,129,130,131,132,133,134],.agg [J 2,J 2,J 0,.nsl,J 0,J 0,.flt .f64 0]] 137 [(some 19),(some 2)]
 (.call 9 [.agg [137,138,139,140,141,142,143,144,145,146,147,148,149,150,151,152,153,154,155],.agg [J 2,J 3,J 0,.nsl,J 0,J 0,.flt .f64 0]] 158 [(some 19),(some 2)]
 (.loop 179 0 [J 0,J 0,J 0,J 0,J 0,J 0,158,159,160,161,162,163,164,165,166,167,168,169,170,171,172,173,174,175,176,.bool true,.bool true,.bool true,.bool true]
 (.cons 29
 (K (.len 58) [68] 208
 (K Qa [179,208] 209
 (.ite 209
 (K (.iaddr 58) [68,179] 210
 (K (.load 61) [210] 211
 (K (.conv 61 2) [211] 212
 (K (.bin .rem 2 false true) [212,J 40000] 213
 (K Qc [180,213] 214
 (.call 9 [.agg [185,186,187,188,189,190,191,192,193,194,195,196,197,198,199,200,201,202,203],.agg [J 6,J 0,213,.nsl,J 0,J 0,.flt .f64 0]] 215 [(some 19),(some 2)]
 (.loop 236 0 [179,214,181,182,183,184,215,216,217,218,219,220,221,222,223,224,225,226,227,228,229,230,231,232,233,204,205,206,207]
 (.cons 29
 b0
 (.cons 29
 b1
 (.cons 29
 b2
 (.cons 29
 b3
 (.cons 29
 b4
 .nil))))))))))))
 (.done (.bool true)))))
 .nil)))))))))))))))
theorem inc {n:Nat} (h:n<9223372036854775807):IntKind.i64.wrap ((n:Int)+1)=((n+1:Nat):Int):=by rw [vd_ (by omega) (by omega)];rfl
theorem x_ {l:List Nat} {x:AV} (h:SlV f_ 1 l x):(XOp.len 58).run Tryz.prog [x]=some (.int .i64 (l.length:Int)):=h.len Tryz.underlying58
theorem qa_ {l:List Nat} {x:AV} (h:SlV f_ 1 l x) {i:Nat} (hi:i<l.length):(XOp.iaddr 58).run Tryz.prog [x,.int .i64 (i:Int)]=some (.vptr (.int .u16 (l[i]:Int)::h6_ f_ (l.drop (i+1)))):=by rw [h.ia (e:=61) Tryz.underlying58 (ti:=(Tryz.prog.info? 61).get!) (by kernel_rfl) (by kernel_rfl) T_ hi .i64,List.drop_eq_getElem_cons hi];rfl
theorem qb_ (a:AV) (r:List AV):(XOp.load 61).run Tryz.prog [.vptr (a::r)]=some a:=sG_ Tryz.underlying61 rfl _ _
theorem w_ (a:AV) (r:List AV):(XOp.load 4).run Tryz.prog [.vptr (a::r)]=some a:=sG_ Tryz.underlying4 rfl _ _
theorem pP_ {n:Nat} (h:n<65536):(XOp.conv 61 2).run Tryz.prog [.int .u16 (n:Int)]=some (.int .i64 (n:Int)):=by rw [tk_ Tryz.underlying61 Tryz.underlying2,vd_ (by omega) (by omega)]
theorem r3_ (n:Nat):(XOp.bin .rem 2 false true).run Tryz.prog [.int .i64 (n:Int),.int .i64 40000]=some (.int .i64 ((n%40000:Nat):Int)):=by rw [uC_ (by decide)];rfl
theorem e_ (a b c d:AV×AV):(XOp.len 35).run Tryz.prog [l_ a b c d]=some (.int .i64 4):=by kernel_rfl
theorem i_ (x:AV) (r:List AV):(XOp.faddr 67 0).run Tryz.prog [.vptr (x::r)]=some (.vptr (x::r)):=by kernel_rfl
theorem d_ (a b:Bool):(XOp.bin .neq 4 false false).run Tryz.prog [.bool a,.bool b]=some (.bool (a !=b)):=by cases a<;>cases b<;>kernel_rfl
theorem rm7 (n:Int):∃m,(XOp.bin .rem 3 false true).run Tryz.prog [.int .i64 n,.int .i64 7]=some (.int .i64 m):=⟨_,uC_ (by decide) ..⟩
theorem rs7 (n:Int):∃m,(XOp.bin .rem 5 false true).run Tryz.prog [.int .u8 n,.int .u8 7]=some (.int .u8 m):=⟨_,uC_ (by decide) ..⟩
theorem m_ (a b c d:AV×AV):(XOp.iaddr 35).run Tryz.prog [l_ a b c d,.int .i64 0]=some (.vptr (j_ a.1 a.2++(j_ b.1 b.2++(j_ c.1 c.2++(j_ d.1 d.2))))):=by kernel_rfl
theorem n_ (a b c d:AV×AV):(XOp.iaddr 35).run Tryz.prog [l_ a b c d,.int .i64 1]=some (.vptr (j_ b.1 b.2++(j_ c.1 c.2++(j_ d.1 d.2)))):=by kernel_rfl
theorem o_ (a b c d:AV×AV):(XOp.iaddr 35).run Tryz.prog [l_ a b c d,.int .i64 2]=some (.vptr (j_ c.1 c.2++(j_ d.1 d.2))):=by kernel_rfl
theorem p_ (a b c d:AV×AV):(XOp.iaddr 35).run Tryz.prog [l_ a b c d,.int .i64 3]=some (.vptr (j_ d.1 d.2)):=by kernel_rfl
structure R1 (now s:Int) (o:Bool) (y:Bool×Int):Prop where
 e:y.1=o
 hs:0<=s/\s<=now
 hy:0<=y.2/\y.2<=now
 hh:o=true->y.2=s
structure R0 (now s:Int) (o:Bool) (y:Bool×Int):Prop where
 e:y.1=(o&&decide (now-s<=60000))
 hs:0<=s/\s<=now
 hy:0<=y.2/\y.2<=now
 hh:y.1=true->y.2=s
def RR (done:Bool):Int->Int->Bool->Bool×Int->Prop:=match done with
 |true=>R1
 |false=>R0
theorem h_ {now n s:Int} {y:Bool×Int} (hn:0<=n) (h:R1 now s y.1 y):R0 (now+n) s y.1 (k_ (gone (now+n) y) y):=by
 obtain ⟨o,v⟩:=y;obtain ⟨_,⟨hs,hs'⟩,⟨hy,hy'⟩,hh⟩:=h;have hy:0<=v:=hy;have hy':v<=now:=hy';cases o with
 |false=>exact ⟨rfl,⟨hs,by omega⟩,⟨hy,by show v<=now+n;omega⟩,λh=>by cases h⟩
 |true=>have e:v=s:=hh rfl;subst e;have hg:gone (now+n) (true,v)=decide (60000<now+n-v):=rfl;rw [hg];by_cases hd:60000<now+n-v;rw [decide_eq_true hd];exact ⟨(decide_eq_false (by omega)).symm,⟨hs,by omega⟩,⟨(by show (0:Int)<=0;decide),(by show (0:Int)<=now+n;omega)⟩,λh=>by cases h⟩;rw [decide_eq_false hd];exact ⟨(decide_eq_true (by omega)).symm,⟨hs,by omega⟩,⟨hy,by show v<=now+n;omega⟩,λ_=>rfl⟩
theorem R0.f {now s:Int} {y:Bool×Int} (h:R0 now s false y):y.1=false/\R1 now s false y:=⟨h.e,⟨h.e,h.hs,h.hy,λh=>by cases h⟩⟩
theorem R0.t {now s:Int} {y:Bool×Int} (h:R0 now s true y):y.1=decide (now-s<=60000)/\R1 now s (decide (now-s<=60000)) y:=by have e:y.1=decide (now-s<=60000):=h.e;exact ⟨e,⟨e,h.hs,h.hy,λh'=>h.hh (e.trans h')⟩⟩
theorem R1.now {now:Int} (h:0<=now):R1 now now true (true,now):=⟨rfl,⟨h,Int.le_refl _⟩,⟨h,Int.le_refl _⟩,λ_=>rfl⟩
def W_ (i now:AV) (s0 s1 s2 s3:Int) (x:US) (o0 o1 o2 o3:Bool):List AV:=i::now::jI s0::jI s1::jI s2::jI s3::(a_ x++[.bool o0,.bool o1,.bool o2,.bool o3])
def V_ (i:Nat) (now s0 s1 s2 s3:Int) (x:US) (o0 o1 o2 o3:Bool):List AV:=jI (i:Int)::jI now::jI s0::jI s1::jI s2::jI s3::(a_ x++[.bool o0,.bool o1,.bool o2,.bool o3])
structure LS where
 i:Nat
 s0:Int
 s1:Int
 s2:Int
 s3:Int
 x:US
def LS.st (q:LS):List AV:=V_ q.i q.x.now q.s0 q.s1 q.s2 q.s3 q.x q.x.a.1 q.x.b.1 q.x.c.1 q.x.d.1
structure LOk (n:Nat) (q:LS):Prop where
 i:q.i<=n
 z:0<=q.x.now/\q.x.now<=40000*(q.i:Int)
 a:R1 q.x.now q.s0 q.x.a.1 q.x.a
 b:R1 q.x.now q.s1 q.x.b.1 q.x.b
 c:R1 q.x.now q.s2 q.x.c.1 q.x.c
 d:R1 q.x.now q.s3 q.x.d.1 q.x.d
structure MOk (j:Nat) (now s0 s1 s2 s3:Int) (x:US) (o0 o1 o2 o3:Bool):Prop where
 n:x.now=now
 a:RR (Nat.blt 0 j) now s0 o0 x.a
 b:RR (Nat.blt 1 j) now s1 o1 x.b
 c:RR (Nat.blt 2 j) now s2 o2 x.c
 d:RR (Nat.blt 3 j) now s3 o3 x.d
def MI (i:Nat) (now:Int) (j:Nat) (vs:List AV):Prop:=∃s0 s1 s2 s3 x o0 o1 o2 o3,vs=V_ i now s0 s1 s2 s3 x o0 o1 o2 o3/\MOk j now s0 s1 s2 s3 x o0 o1 o2 o3
theorem B_ {f:List AV} (x:US) (h:okL f=true):okL (a_ x++f)=true:=oj_.okL_join (by rfl) h
theorem U_ (i:Nat) (now s0 s1 s2 s3:Int) (x:US) (o0 o1 o2 o3:Bool):okL (V_ i now s0 s1 s2 s3 x o0 o1 o2 o3)=true:=B_ x rfl
theorem stI {i i':Nat} {now s0 s1 s2 s3 now' s0' s1' s2' s3':Int} {x x':US} {o0 o1 o2 o3 o0' o1' o2' o3':Bool} (h:V_ i now s0 s1 s2 s3 x o0 o1 o2 o3=V_ i' now' s0' s1' s2' s3' x' o0' o1' o2' o3'):i=i':=by
 have h:=(List.cons.inj h).1;injection h with _ h
 omega
abbrev DD:List AV:=[AV.int .i64 0,AV.nsl]
theorem qc_:okL (U0++[jI 0,jI 0])=true:=by kernel_rfl
theorem qH_:okL (U1++DD)=true:=by kernel_rfl
theorem ra_:okL (U2++DD)=true:=by kernel_rfl
theorem r1_:okL (U3++DD)=true:=by kernel_rfl
def x00:US:=⟨0,(true,0),(true,0),(true,0),(true,0)⟩
theorem c_ {a b:Bool} (h:a=b):(a !=b)=false:=by rw [h];cases b<;>rfl
theorem p4 {c:A4} {l:List Nat} {x:AV} (hs:SlV f_ 1 l x) (hp:∀v∈l,v<65536):hR_ Tryz.prog 4 [.agg (g_ c),x] (.bool true):=by
 have hA:=hs.ok A_;refine tJ_ (sh:=[some 4,none]) (ls:=g_ c++[x]) (c:=c4) (n:=300) (t:=t4) mox ov rfl (by simp only [List.cons_append,List.nil_append,okL,okC,hA]) rfl (λY _=>u4_ _) rfl (by kernel_rfl) λY hf hg=>?_;unfold t4;refine uc_ kl5 rfl rfl (uX_ (uS_ ..) rfl (uK_ (t:=false) rfl (λh=>by cases h) (λ_=>?_)));refine uX_ (x_ hs) rfl (uX_ (run_gtr ..) rfl (uK_ rfl (λ_=>ud_ rfl) (λhl=>?_)));have hl:l.length<=20:=by have:=of_decide_eq_false hl;omega
 refine uc_ (vs:=U0++[jI 0,jI 0]) kl6 rfl qc_ (uX_ (run_neq ..) rfl (uK_ (t:=false) rfl (λh=>by cases h) (λ_=>?_)));refine uc_ (vs:=U1++DD) ko0 rfl qH_ (uc_ (vs:=U2++DD) ko1 rfl ra_ (uc_ (vs:=U3++DD) ko2 rfl r1_ (uc_ (vs:=a_ x00++DD) ko3 rfl rfl ?_)));refine ue_ (ι:=LS) LS.st (LOk l.length) (λq=>l.length-q.i) ⟨0,0,0,0,0,x00⟩ ⟨Nat.zero_le _,⟨by decide,by decide⟩,⟨rfl,by decide,by decide,λ_=>rfl⟩,⟨rfl,by decide,by decide,λ_=>rfl⟩,⟨rfl,by decide,by decide,λ_=>rfl⟩,⟨rfl,by decide,by decide,λ_=>rfl⟩⟩ rfl (λq _=>U_ ..) (λq q' _ _ h=>by have h:=stI h;show l.length-q.i=l.length-q'.i;rw [h]) (λq hq=>?_);obtain ⟨i,s0,s1,s2,s3,y⟩:=q;obtain ⟨hi,⟨hz,hz'⟩,ha,hb,hc,hd⟩:=hq;simp only at hi hz hz' ha hb hc hd;refine uX_ (x_ hs) rfl (uX_ (run_lss ..) rfl (uK_ rfl (λhlt=>?_) (λ_=>ud_ rfl)));have hlt:i<l.length:=by have:(i:Int)<(l.length:Int):=of_decide_eq_true hlt;omega
 have hv:l[i]<65536:=hp _ (List.getElem_mem hlt);have hm:l[i]%40000<40000:=Nat.mod_lt _ (by decide);have e1:IntKind.i64.wrap (y.now+((l[i]%40000:Nat):Int))=y.now+((l[i]%40000:Nat):Int):=vd_ (by omega) (by omega);have hbd:Bd y:=⟨⟨hz,by omega⟩,ha.hy,hb.hy,hc.hy,hd.hy⟩;refine uX_ (qa_ hs hlt) (oj_ A_ _) (uX_ (qb_ ..) rfl (uX_ (pP_ hv) rfl (uX_ (r3_ _) rfl (uX_ (r:=jI (y.now+((l[i]%40000:Nat):Int))) ((run_add ..).trans (congrArg (λv=>some (AV.int .i64 v)) e1)) rfl (uc_ (vs:=a_ (v_ y ((l[i]%40000:Nat):Int))++DD) (pT y hbd _ (by omega) (by omega)) rfl (B_ _ rfl) ?_)))));generalize hn:((l[i]%40000:Nat):Int)=n;have hn0:0<=n:=by omega
 have hn1:n<=40000:=by omega
 refine ⟨MI i (y.now+n),λj _=>5-j,λj vs hI=>?_,?_,?_⟩;obtain ⟨s0,s1,s2,s3,x,o0,o1,o2,o3,rfl,h⟩:=hI;exact U_ ..;exact ⟨s0,s1,s2,s3,v_ y n,y.a.1,y.b.1,y.c.1,y.d.1,rfl,⟨rfl,h_ hn0 ha,h_ hn0 hb,h_ hn0 hc,h_ hn0 hd⟩⟩;have hZ:0<=y.now+n/\y.now+n<=900000:=by omega
 refine ⟨λvs _ hI=>?_,λvs _ hI=>?_,λvs _ hI=>?_,λvs _ hI=>?_,λvs _ hI=>?_,trivial⟩;obtain ⟨s0,s1,s2,s3,x,o0,o1,o2,o3,rfl,h⟩:=hI;have hR:R0 (y.now+n) s0 o0 x.a:=h.a;obtain ⟨m1,r1⟩:=rs7 (c.a.toNat:Int);obtain ⟨m2,r2⟩:=rm7 (i:Int);unfold b0;refine uK_ (t:=o0) rfl (λho=>?_) (λho=>?_);subst ho;obtain ⟨e,hR1⟩:=hR.t;have hs':=hR.hs;refine uX_ (r:=jI (y.now+n-s0)) ((run_sub ..).trans (by rw [vd_ (by omega) (by omega)])) rfl (uX_ (run_leq ..) rfl (uX_ (e_ ..) rfl (uX_ (run_neq ..) rfl (uK_ (t:=false) rfl (λh=>by cases h) (λ_=>?_)))));refine uX_ (m_ ..) rfl (uX_ (i_ ..) rfl (uX_ (w_ ..) rfl (uX_ (d_ ..) rfl (uK_ (t:=false) (congrArg (λb=>some (AV.bool b)) (c_ e)) (λh=>by cases h) (λ_=>?_)))));refine uX_ r1 rfl (uX_ (tk_ Tryz.underlying5 Tryz.underlying3 _) rfl (uX_ r2 rfl (uX_ (run_eql ..) rfl (uK_ rfl (λ_=>uK_ rfl (λhb=>?_) (λ_=>t3_ rfl ⟨⟨s0,s1,s2,s3,x,(decide (y.now+n-s0<=60000)),o1,o2,o3,rfl,⟨h.n,hR1,h.b,h.c,h.d⟩⟩,(by show 5-1<5-0;decide)⟩)) (λ_=>t3_ rfl ⟨⟨s0,s1,s2,s3,x,(decide (y.now+n-s0<=60000)),o1,o2,o3,rfl,⟨h.n,hR1,h.b,h.c,h.d⟩⟩,(by show 5-1<5-0;decide)⟩)))));have hb:decide (y.now+n-s0<=60000)=true:=hb;refine uc_ (vs:=a_ { x with a:=(true,x.now) }++DD) (pB0 x (e.trans hb)) rfl (B_ _ rfl) (t3_ rfl ⟨⟨(y.now+n),s1,s2,s3,{ x with a:=(true,x.now) },(decide (y.now+n-s0<=60000)),o1,o2,o3,rfl,⟨h.n,?_,h.b,h.c,h.d⟩⟩,(by show 5-1<5-0;decide)⟩);rw [hb,h.n];exact R1.now hZ.1;subst ho;obtain ⟨e,hR1⟩:=hR.f;refine uX_ (e_ ..) rfl (uX_ (run_neq ..) rfl (uK_ (t:=false) rfl (λh=>by cases h) (λ_=>?_)));refine uX_ (m_ ..) rfl (uX_ (i_ ..) rfl (uX_ (w_ ..) rfl (uX_ (d_ ..) rfl (uK_ (t:=false) (congrArg (λb=>some (AV.bool b)) (c_ e)) (λh=>by cases h) (λ_=>?_)))));exact uX_ r1 rfl (uX_ (tk_ Tryz.underlying5 Tryz.underlying3 _) rfl (uX_ r2 rfl (uX_ (run_eql ..) rfl (uK_ rfl (λ_=>t3_ rfl ⟨⟨s0,s1,s2,s3,x,false,o1,o2,o3,rfl,⟨h.n,hR1,h.b,h.c,h.d⟩⟩,(by show 5-1<5-0;decide)⟩) (λ_=>t3_ rfl ⟨⟨s0,s1,s2,s3,x,false,o1,o2,o3,rfl,⟨h.n,hR1,h.b,h.c,h.d⟩⟩,(by show 5-1<5-0;decide)⟩)))));obtain ⟨s0,s1,s2,s3,x,o0,o1,o2,o3,rfl,h⟩:=hI;have hR:R0 (y.now+n) s1 o1 x.b:=h.b;obtain ⟨m1,r1⟩:=rs7 (c.b.toNat:Int);obtain ⟨m2,r2⟩:=rm7 (i:Int);unfold b1;refine uK_ (t:=o1) rfl (λho=>?_) (λho=>?_);subst ho;obtain ⟨e,hR1⟩:=hR.t;have hs':=hR.hs;refine uX_ (r:=jI (y.now+n-s1)) ((run_sub ..).trans (by rw [vd_ (by omega) (by omega)])) rfl (uX_ (run_leq ..) rfl (uX_ (e_ ..) rfl (uX_ (run_neq ..) rfl (uK_ (t:=false) rfl (λh=>by cases h) (λ_=>?_)))));refine uX_ (n_ ..) rfl (uX_ (i_ ..) rfl (uX_ (w_ ..) rfl (uX_ (d_ ..) rfl (uK_ (t:=false) (congrArg (λb=>some (AV.bool b)) (c_ e)) (λh=>by cases h) (λ_=>?_)))));refine uX_ r1 rfl (uX_ (tk_ Tryz.underlying5 Tryz.underlying3 _) rfl (uX_ r2 rfl (uX_ (run_eql ..) rfl (uK_ rfl (λ_=>uK_ rfl (λhb=>?_) (λ_=>t3_ rfl ⟨⟨s0,s1,s2,s3,x,o0,(decide (y.now+n-s1<=60000)),o2,o3,rfl,⟨h.n,h.a,hR1,h.c,h.d⟩⟩,(by show 5-2<5-1;decide)⟩)) (λ_=>t3_ rfl ⟨⟨s0,s1,s2,s3,x,o0,(decide (y.now+n-s1<=60000)),o2,o3,rfl,⟨h.n,h.a,hR1,h.c,h.d⟩⟩,(by show 5-2<5-1;decide)⟩)))));have hb:decide (y.now+n-s1<=60000)=true:=hb;refine uc_ (vs:=a_ { x with b:=(true,x.now) }++DD) (pB1 x (e.trans hb)) rfl (B_ _ rfl) (t3_ rfl ⟨⟨s0,(y.now+n),s2,s3,{ x with b:=(true,x.now) },o0,(decide (y.now+n-s1<=60000)),o2,o3,rfl,⟨h.n,h.a,?_,h.c,h.d⟩⟩,(by show 5-2<5-1;decide)⟩);rw [hb,h.n];exact R1.now hZ.1;subst ho;obtain ⟨e,hR1⟩:=hR.f;refine uX_ (e_ ..) rfl (uX_ (run_neq ..) rfl (uK_ (t:=false) rfl (λh=>by cases h) (λ_=>?_)));refine uX_ (n_ ..) rfl (uX_ (i_ ..) rfl (uX_ (w_ ..) rfl (uX_ (d_ ..) rfl (uK_ (t:=false) (congrArg (λb=>some (AV.bool b)) (c_ e)) (λh=>by cases h) (λ_=>?_)))));exact uX_ r1 rfl (uX_ (tk_ Tryz.underlying5 Tryz.underlying3 _) rfl (uX_ r2 rfl (uX_ (run_eql ..) rfl (uK_ rfl (λ_=>t3_ rfl ⟨⟨s0,s1,s2,s3,x,o0,false,o2,o3,rfl,⟨h.n,h.a,hR1,h.c,h.d⟩⟩,(by show 5-2<5-1;decide)⟩) (λ_=>t3_ rfl ⟨⟨s0,s1,s2,s3,x,o0,false,o2,o3,rfl,⟨h.n,h.a,hR1,h.c,h.d⟩⟩,(by show 5-2<5-1;decide)⟩)))));obtain ⟨s0,s1,s2,s3,x,o0,o1,o2,o3,rfl,h⟩:=hI;have hR:R0 (y.now+n) s2 o2 x.c:=h.c;obtain ⟨m1,r1⟩:=rs7 (c.c.toNat:Int);obtain ⟨m2,r2⟩:=rm7 (i:Int);unfold b2;refine uK_ (t:=o2) rfl (λho=>?_) (λho=>?_);subst ho;obtain ⟨e,hR1⟩:=hR.t;have hs':=hR.hs;refine uX_ (r:=jI (y.now+n-s2)) ((run_sub ..).trans (by rw [vd_ (by omega) (by omega)])) rfl (uX_ (run_leq ..) rfl (uX_ (e_ ..) rfl (uX_ (run_neq ..) rfl (uK_ (t:=false) rfl (λh=>by cases h) (λ_=>?_)))));refine uX_ (o_ ..) rfl (uX_ (i_ ..) rfl (uX_ (w_ ..) rfl (uX_ (d_ ..) rfl (uK_ (t:=false) (congrArg (λb=>some (AV.bool b)) (c_ e)) (λh=>by cases h) (λ_=>?_)))));refine uX_ r1 rfl (uX_ (tk_ Tryz.underlying5 Tryz.underlying3 _) rfl (uX_ r2 rfl (uX_ (run_eql ..) rfl (uK_ rfl (λ_=>uK_ rfl (λhb=>?_) (λ_=>t3_ rfl ⟨⟨s0,s1,s2,s3,x,o0,o1,(decide (y.now+n-s2<=60000)),o3,rfl,⟨h.n,h.a,h.b,hR1,h.d⟩⟩,(by show 5-3<5-2;decide)⟩)) (λ_=>t3_ rfl ⟨⟨s0,s1,s2,s3,x,o0,o1,(decide (y.now+n-s2<=60000)),o3,rfl,⟨h.n,h.a,h.b,hR1,h.d⟩⟩,(by show 5-3<5-2;decide)⟩)))));have hb:decide (y.now+n-s2<=60000)=true:=hb;refine uc_ (vs:=a_ { x with c:=(true,x.now) }++DD) (pB2 x (e.trans hb)) rfl (B_ _ rfl) (t3_ rfl ⟨⟨s0,s1,(y.now+n),s3,{ x with c:=(true,x.now) },o0,o1,(decide (y.now+n-s2<=60000)),o3,rfl,⟨h.n,h.a,h.b,?_,h.d⟩⟩,(by show 5-3<5-2;decide)⟩);rw [hb,h.n];exact R1.now hZ.1;subst ho;obtain ⟨e,hR1⟩:=hR.f;refine uX_ (e_ ..) rfl (uX_ (run_neq ..) rfl (uK_ (t:=false) rfl (λh=>by cases h) (λ_=>?_)));refine uX_ (o_ ..) rfl (uX_ (i_ ..) rfl (uX_ (w_ ..) rfl (uX_ (d_ ..) rfl (uK_ (t:=false) (congrArg (λb=>some (AV.bool b)) (c_ e)) (λh=>by cases h) (λ_=>?_)))));exact uX_ r1 rfl (uX_ (tk_ Tryz.underlying5 Tryz.underlying3 _) rfl (uX_ r2 rfl (uX_ (run_eql ..) rfl (uK_ rfl (λ_=>t3_ rfl ⟨⟨s0,s1,s2,s3,x,o0,o1,false,o3,rfl,⟨h.n,h.a,h.b,hR1,h.d⟩⟩,(by show 5-3<5-2;decide)⟩) (λ_=>t3_ rfl ⟨⟨s0,s1,s2,s3,x,o0,o1,false,o3,rfl,⟨h.n,h.a,h.b,hR1,h.d⟩⟩,(by show 5-3<5-2;decide)⟩)))));obtain ⟨s0,s1,s2,s3,x,o0,o1,o2,o3,rfl,h⟩:=hI;have hR:R0 (y.now+n) s3 o3 x.d:=h.d;obtain ⟨m1,r1⟩:=rs7 (c.d.toNat:Int);obtain ⟨m2,r2⟩:=rm7 (i:Int);unfold b3;refine uK_ (t:=o3) rfl (λho=>?_) (λho=>?_);subst ho;obtain ⟨e,hR1⟩:=hR.t;have hs':=hR.hs;refine uX_ (r:=jI (y.now+n-s3)) ((run_sub ..).trans (by rw [vd_ (by omega) (by omega)])) rfl (uX_ (run_leq ..) rfl (uX_ (e_ ..) rfl (uX_ (run_neq ..) rfl (uK_ (t:=false) rfl (λh=>by cases h) (λ_=>?_)))));refine uX_ (p_ ..) rfl (uX_ (i_ ..) rfl (uX_ (w_ ..) rfl (uX_ (d_ ..) rfl (uK_ (t:=false) (congrArg (λb=>some (AV.bool b)) (c_ e)) (λh=>by cases h) (λ_=>?_)))));refine uX_ r1 rfl (uX_ (tk_ Tryz.underlying5 Tryz.underlying3 _) rfl (uX_ r2 rfl (uX_ (run_eql ..) rfl (uK_ rfl (λ_=>uK_ rfl (λhb=>?_) (λ_=>t3_ rfl ⟨⟨s0,s1,s2,s3,x,o0,o1,o2,(decide (y.now+n-s3<=60000)),rfl,⟨h.n,h.a,h.b,h.c,hR1⟩⟩,(by show 5-4<5-3;decide)⟩)) (λ_=>t3_ rfl ⟨⟨s0,s1,s2,s3,x,o0,o1,o2,(decide (y.now+n-s3<=60000)),rfl,⟨h.n,h.a,h.b,h.c,hR1⟩⟩,(by show 5-4<5-3;decide)⟩)))));have hb:decide (y.now+n-s3<=60000)=true:=hb;refine uc_ (vs:=a_ { x with d:=(true,x.now) }++DD) (pB3 x (e.trans hb)) rfl (B_ _ rfl) (t3_ rfl ⟨⟨s0,s1,s2,(y.now+n),{ x with d:=(true,x.now) },o0,o1,o2,(decide (y.now+n-s3<=60000)),rfl,⟨h.n,h.a,h.b,h.c,?_⟩⟩,(by show 5-4<5-3;decide)⟩);rw [hb,h.n];exact R1.now hZ.1;subst ho;obtain ⟨e,hR1⟩:=hR.f;refine uX_ (e_ ..) rfl (uX_ (run_neq ..) rfl (uK_ (t:=false) rfl (λh=>by cases h) (λ_=>?_)));refine uX_ (p_ ..) rfl (uX_ (i_ ..) rfl (uX_ (w_ ..) rfl (uX_ (d_ ..) rfl (uK_ (t:=false) (congrArg (λb=>some (AV.bool b)) (c_ e)) (λh=>by cases h) (λ_=>?_)))));exact uX_ r1 rfl (uX_ (tk_ Tryz.underlying5 Tryz.underlying3 _) rfl (uX_ r2 rfl (uX_ (run_eql ..) rfl (uK_ rfl (λ_=>t3_ rfl ⟨⟨s0,s1,s2,s3,x,o0,o1,o2,false,rfl,⟨h.n,h.a,h.b,h.c,hR1⟩⟩,(by show 5-4<5-3;decide)⟩) (λ_=>t3_ rfl ⟨⟨s0,s1,s2,s3,x,o0,o1,o2,false,rfl,⟨h.n,h.a,h.b,h.c,hR1⟩⟩,(by show 5-4<5-3;decide)⟩)))));obtain ⟨s0,s1,s2,s3,x,o0,o1,o2,o3,rfl,h⟩:=hI;have h0:R1 (y.now+n) s0 o0 x.a:=h.a;have h1:R1 (y.now+n) s1 o1 x.b:=h.b;have h2:R1 (y.now+n) s2 o2 x.c:=h.c;have h3:R1 (y.now+n) s3 o3 x.d:=h.d;obtain rfl:=h0.e;obtain rfl:=h1.e;obtain rfl:=h2.e;obtain rfl:=h3.e;have hx:=h.n;rw [←hx]at h0 h1 h2 h3;unfold b4;refine uX_ (run_add ..) rfl (t3_ rfl ⟨⟨i+1,s0,s1,s2,s3,x⟩,⟨hlt,⟨?_,?_⟩,h0,h1,h2,h3⟩,?_,?_⟩);show 0<=x.now;omega;show x.now<=40000*((i+1:Nat):Int);omega;show W_ (jI (IntKind.i64.wrap ((i:Int)+1))) (jI (y.now+n)) s0 s1 s2 s3 x x.a.1 x.b.1 x.c.1 x.d.1=W_ (jI ((i+1:Nat):Int)) (jI x.now) s0 s1 s2 s3 x x.a.1 x.b.1 x.c.1 x.d.1;rw [inc (by omega),hx];show l.length-(i+1)<l.length-i;omega
end Go.Proofs.YtaamplmpnmegdaaGreatDoor.vars
