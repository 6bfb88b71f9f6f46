/-
  The controller's runs, part 5.
-/
import Derived.Test.YtaamplmpnmegdaaGreatDoorFA
set_option maxRecDepth 100000
namespace Go.Proofs.YtaamplmpnmegdaaGreatDoor.vars
open Go Go.Sx
theorem e12:vFn Tryz.prog 300 cD 9 [d_ 12,stepM] 74=tM12:=by kernel_rfl
theorem e14:vFn Tryz.prog 300 cD 9 [d_ 14,stepM] 74=tM14:=by kernel_rfl
theorem eO:vFn Tryz.prog 300 cD 9 [d_ 15,stepM] 74=.done (.tup [.agg (TL 0 (.sym 64) (.sym 64) (.sym 66) (.sym 67) (.sym 68) (.sym 69) (.sym 66) (.sym 67) (.sym 68) (.sym 73)),D0]):=by kernel_rfl
end Go.Proofs.YtaamplmpnmegdaaGreatDoor.vars
set_option maxRecDepth 100000
set_option linter.unusedVariables false
namespace Go.Proofs.YtaamplmpnmegdaaGreatDoor.vars
open Go Go.Sx
def ea_:VT:=
 (K Qc [64,65] 66
 (K (.conv 2 259) [66] 67
 (K (.conv 259 2) [67] 68
 (.done (.tup [68,J 0])))))
theorem bu_ (a b:Int):hR_ Tryz.prog 275 [jI 4,jI 2,jI a,jI b] (.tup [jI (k_ a b),jI 0]):=by refine pure_pat (args':=[jI 4,jI 2,.sym 64,.sym 65]) (ls:=[jI a,jI b]) (c:=cD) (n:=300) (t:=ea_) mox ov rfl rfl rfl rfl (λY _=>rfl) (λY _=>u8_ _) rfl (by kernel_rfl) λY hf hg=>?_;unfold ea_;exact u1_ (run_add ..) rfl (u1_ (tn_ Tryz.underlying2 Tryz.underlying259 _) rfl (u1_ (tn_ Tryz.underlying259 Tryz.underlying2 _) rfl (ui_ rfl)))
def t272:VT:=.lt (.conv 2 259) [.sym 64] 65 none (.lt (.conv 259 2) [.sym 65] 66 none (.done (.sym 66)))
theorem q_ (a:Int):hR_ Tryz.prog 272 [jI 2,jI a] (jI (u_ a)):=by refine pure_pat (args':=[jI 2,.sym 64]) (ls:=[jI a]) (c:=cD) (n:=300) (t:=t272) mox ov rfl rfl rfl rfl (λY _=>rfl) (λY _=>u8_ _) rfl (by kernel_rfl) λY hf hg=>?_;unfold t272;exact u1_ (tn_ Tryz.underlying2 Tryz.underlying259 _) rfl (u1_ (tn_ Tryz.underlying259 Tryz.underlying2 _) rfl (ui_ rfl))
def cN:VC:=⟨⟨[],[]⟩,[(272,[none]),(275,[none,none])],[],0,true,[]⟩
def tM2:VT:=
 (.call 272 [J 2,73] 74 [none]
 (.call 272 [J 2,J 1] 75 [none]
 (.call 275 [J 4,J 2,74,75] 76 [none,none]
 (K Q0 [77,J 0] 78
 (.ite 78
 (K Q0 [77,J 0] 79
 (.ite 79
 (K Q1 [69,J 1] 80
 (.done (.tup [.agg [VARS2,BODY2,VARS2,CODE2,J 100,.vsl 9 3 [J 2,65,.flt .f64 0,J 1,J 0,.flt .f64 0,J 2,J 9,.flt .f64 0,J 2,67,.flt .f64 0,J 2,J 0,.flt .f64 0,J 5,J 0,68,J 2,J 0,.flt .f64 0,J 2,J 0,.flt .f64 0,J 2,J 0,.flt .f64 0],J 2,.vsl 2 3 [J 2,73,.flt .f64 0,J 2,J 1,.flt .f64 0],.vsl 9 3 [J 2,65,.flt .f64 0,J 1,J 0,.flt .f64 0,J 2,70,.flt .f64 0,J 2,71,.flt .f64 0,J 2,J 0,.flt .f64 0,J 5,J 0,72,J 2,J 0,.flt .f64 0,J 2,J 0,.flt .f64 0,J 2,J 0,.flt .f64 0],J 3,J 0,.bool false,77,77,80,J 0,SESS0,.nsl,.vsl 9 3 [J 2,64,.flt .f64 0,J 1,J 0,.flt .f64 0,J 2,J 1,.flt .f64 0,J 2,J 0,.flt .f64 0,J 2,J 0,.flt .f64 0,J 5,J 0,.flt .f64 0,J 2,J 0,.flt .f64 0,J 2,J 0,.flt .f64 0,J 2,J 0,.flt .f64 0]],.agg [J 0,.nsl]])))
 (.done (.tup [.agg [VARS2,BODY2,VARS2,CODE2,J 100,.vsl 9 3 [J 2,65,.flt .f64 0,J 1,J 0,.flt .f64 0,J 2,66,.flt .f64 0,J 2,67,.flt .f64 0,J 2,J 0,.flt .f64 0,J 5,J 0,68,J 2,J 0,.flt .f64 0,J 2,J 0,.flt .f64 0,J 2,J 0,.flt .f64 0],J 2,.vsl 2 3 [J 2,73,.flt .f64 0,J 2,J 1,.flt .f64 0],.vsl 9 3 [J 2,65,.flt .f64 0,J 1,J 0,.flt .f64 0,J 2,70,.flt .f64 0,J 2,71,.flt .f64 0,J 2,J 0,.flt .f64 0,J 5,J 0,72,J 2,J 0,.flt .f64 0,J 2,J 0,.flt .f64 0,J 2,J 0,.flt .f64 0],J 3,J 0,.bool false,77,J 0,69,J 0,SESS0,.nsl,.vsl 9 3 [J 2,64,.flt .f64 0,J 1,J 0,.flt .f64 0,J 2,J 1,.flt .f64 0,J 2,J 0,.flt .f64 0,J 2,J 0,.flt .f64 0,J 5,J 0,.flt .f64 0,J 2,J 0,.flt .f64 0,J 2,J 0,.flt .f64 0,J 2,J 0,.flt .f64 0]],.agg [J 0,.nsl]]))))
 (.done (.tup [.agg [VARS2,BODY2,VARS2,CODE2,J 100,.vsl 9 3 [J 2,65,.flt .f64 0,J 1,J 0,.flt .f64 0,J 2,66,.flt .f64 0,J 2,67,.flt .f64 0,J 2,J 0,.flt .f64 0,J 5,J 0,68,J 2,J 0,.flt .f64 0,J 2,J 0,.flt .f64 0,J 2,J 0,.flt .f64 0],J 3,.vsl 1 3 [J 2,76,.flt .f64 0],.vsl 9 3 [J 2,65,.flt .f64 0,J 1,J 0,.flt .f64 0,J 2,70,.flt .f64 0,J 2,71,.flt .f64 0,J 2,J 0,.flt .f64 0,J 5,J 0,72,J 2,J 0,.flt .f64 0,J 2,J 0,.flt .f64 0,J 2,J 0,.flt .f64 0],J 3,J 0,.bool false,J 0,J 0,69,J 0,SESS0,.nsl,.vsl 9 3 [J 2,64,.flt .f64 0,J 1,J 0,.flt .f64 0,J 2,J 1,.flt .f64 0,J 2,J 0,.flt .f64 0,J 2,J 0,.flt .f64 0,J 5,J 0,.flt .f64 0,J 2,J 0,.flt .f64 0,J 2,J 0,.flt .f64 0,J 2,J 0,.flt .f64 0]],.agg [J 0,.nsl]])))))))
theorem e2:vFn Tryz.prog 300 cN 9 [d_ 2,stepM] 74=tM2:=by kernel_rfl
def tM6:VT:=
 (.call 272 [J 2,J 0] 74 [none]
 (.call 272 [J 2,73] 75 [none]
 (.call 275 [J 4,J 2,74,75] 76 [none,none]
 (K Q0 [77,J 0] 78
 (.ite 78
 (K Q0 [77,J 0] 79
 (.ite 79
 (K Q1 [69,J 1] 80
 (.done (.tup [.agg [VARS2,BODY2,VARS2,CODE2,J 100,.vsl 9 3 [J 2,65,.flt .f64 0,J 1,J 0,.flt .f64 0,J 2,J 9,.flt .f64 0,J 2,67,.flt .f64 0,J 2,J 0,.flt .f64 0,J 5,J 0,68,J 2,J 0,.flt .f64 0,J 2,J 0,.flt .f64 0,J 2,J 0,.flt .f64 0],J 6,.vsl 2 3 [J 2,J 0,.flt .f64 0,J 2,73,.flt .f64 0],.vsl 9 3 [J 2,65,.flt .f64 0,J 1,J 0,.flt .f64 0,J 2,70,.flt .f64 0,J 2,71,.flt .f64 0,J 2,J 0,.flt .f64 0,J 5,J 0,72,J 2,J 0,.flt .f64 0,J 2,J 0,.flt .f64 0,J 2,J 0,.flt .f64 0],J 7,J 0,.bool false,77,77,80,J 0,SESS0,.nsl,.vsl 9 3 [J 2,64,.flt .f64 0,J 1,J 0,.flt .f64 0,J 2,J 1,.flt .f64 0,J 2,J 0,.flt .f64 0,J 2,J 0,.flt .f64 0,J 5,J 0,.flt .f64 0,J 2,J 0,.flt .f64 0,J 2,J 0,.flt .f64 0,J 2,J 0,.flt .f64 0]],.agg [J 0,.nsl]])))
 (.done (.tup [.agg [VARS2,BODY2,VARS2,CODE2,J 100,.vsl 9 3 [J 2,65,.flt .f64 0,J 1,J 0,.flt .f64 0,J 2,66,.flt .f64 0,J 2,67,.flt .f64 0,J 2,J 0,.flt .f64 0,J 5,J 0,68,J 2,J 0,.flt .f64 0,J 2,J 0,.flt .f64 0,J 2,J 0,.flt .f64 0],J 6,.vsl 2 3 [J 2,J 0,.flt .f64 0,J 2,73,.flt .f64 0],.vsl 9 3 [J 2,65,.flt .f64 0,J 1,J 0,.flt .f64 0,J 2,70,.flt .f64 0,J 2,71,.flt .f64 0,J 2,J 0,.flt .f64 0,J 5,J 0,72,J 2,J 0,.flt .f64 0,J 2,J 0,.flt .f64 0,J 2,J 0,.flt .f64 0],J 7,J 0,.bool false,77,J 0,69,J 0,SESS0,.nsl,.vsl 9 3 [J 2,64,.flt .f64 0,J 1,J 0,.flt .f64 0,J 2,J 1,.flt .f64 0,J 2,J 0,.flt .f64 0,J 2,J 0,.flt .f64 0,J 5,J 0,.flt .f64 0,J 2,J 0,.flt .f64 0,J 2,J 0,.flt .f64 0,J 2,J 0,.flt .f64 0]],.agg [J 0,.nsl]]))))
 (.done (.tup [.agg [VARS2,BODY2,VARS2,CODE2,J 100,.vsl 9 3 [J 2,65,.flt .f64 0,J 1,J 0,.flt .f64 0,J 2,66,.flt .f64 0,J 2,67,.flt .f64 0,J 2,J 0,.flt .f64 0,J 5,J 0,68,J 2,J 0,.flt .f64 0,J 2,J 0,.flt .f64 0,J 2,J 0,.flt .f64 0],J 7,.vsl 1 3 [J 2,76,.flt .f64 0],.vsl 9 3 [J 2,65,.flt .f64 0,J 1,J 0,.flt .f64 0,J 2,70,.flt .f64 0,J 2,71,.flt .f64 0,J 2,J 0,.flt .f64 0,J 5,J 0,72,J 2,J 0,.flt .f64 0,J 2,J 0,.flt .f64 0,J 2,J 0,.flt .f64 0],J 7,J 0,.bool false,J 0,J 0,69,J 0,SESS0,.nsl,.vsl 9 3 [J 2,64,.flt .f64 0,J 1,J 0,.flt .f64 0,J 2,J 1,.flt .f64 0,J 2,J 0,.flt .f64 0,J 2,J 0,.flt .f64 0,J 5,J 0,.flt .f64 0,J 2,J 0,.flt .f64 0,J 2,J 0,.flt .f64 0,J 2,J 0,.flt .f64 0]],.agg [J 0,.nsl]])))))))
theorem e6:vFn Tryz.prog 300 cN 9 [d_ 6,stepM] 74=tM6:=by kernel_rfl
end Go.Proofs.YtaamplmpnmegdaaGreatDoor.vars
set_option maxRecDepth 100000
set_option linter.unusedVariables false
set_option linter.unusedSimpArgs false
namespace Go.Proofs.YtaamplmpnmegdaaGreatDoor.vars
open Go Go.Sx
theorem d0 (i a o n N mo mn:Int) (r mr:Option Nat) (s:Int):hR_ Tryz.prog 9 [.agg (TL 0 (jI i) (jI a) (jI o) (jI n) (fv r) (jI N) (jI mo) (jI mn) (fv mr) (jI s)),stepM] (.tup [.agg (TL 1 (jI i) (jI a) (jI o) (jI n) (fv r) (jI N) (jI mo) (jI mn) (fv mr) (jI mn)),D0]):=
 pure_pat (args':=[d_ 0,stepM]) (ls:=[jI i,jI a,jI o,jI n,fv r,jI N,jI mo,jI mn,fv mr,jI s]) (c:=cD) (n:=300) mox ov (by cases r<;>cases mr<;>rfl) rfl (by cases r<;>cases mr<;>rfl) (by cases r<;>cases mr<;>rfl) (λY _=>rfl) (λY _=>u8_ _) rfl e0 λY hf hg=>ui_ rfl
theorem d1 (i a o n N mo mn:Int) (r mr:Option Nat) (s:Int):hR_ Tryz.prog 9 [.agg (TL 1 (jI i) (jI a) (jI o) (jI n) (fv r) (jI N) (jI mo) (jI mn) (fv mr) (jI s)),stepM] (.tup [.agg (TL 2 (jI i) (jI a) (jI o) (jI n) (fv r) (jI N) (jI mo) (jI mn) (fv mr) (jI s)),D0]):=
 pure_pat (args':=[d_ 1,stepM]) (ls:=[jI i,jI a,jI o,jI n,fv r,jI N,jI mo,jI mn,fv mr,jI s]) (c:=cD) (n:=300) mox ov (by cases r<;>cases mr<;>rfl) rfl (by cases r<;>cases mr<;>rfl) (by cases r<;>cases mr<;>rfl) (λY _=>rfl) (λY _=>u8_ _) rfl e1 λY hf hg=>ui_ rfl
theorem d3 (i a o n N mo mn:Int) (r mr:Option Nat) (s:Int):hR_ Tryz.prog 9 [.agg (TL 3 (jI i) (jI a) (jI o) (jI n) (fv r) (jI N) (jI mo) (jI mn) (fv mr) (jI s)),stepM] (.tup [.agg (TL 4 (jI i) (jI a) (jI o) (jI n) (fv r) (jI N) (jI mo) (jI s) (fv mr) (jI s)),D0]):=
 pure_pat (args':=[d_ 3,stepM]) (ls:=[jI i,jI a,jI o,jI n,fv r,jI N,jI mo,jI mn,fv mr,jI s]) (c:=cD) (n:=300) mox ov (by cases r<;>cases mr<;>rfl) rfl (by cases r<;>cases mr<;>rfl) (by cases r<;>cases mr<;>rfl) (λY _=>rfl) (λY _=>u8_ _) rfl e3 λY hf hg=>ui_ rfl
theorem d4 (i a o n N mo mn:Int) (r mr:Option Nat) (s:Int):hR_ Tryz.prog 9 [.agg (TL 4 (jI i) (jI a) (jI o) (jI n) (fv r) (jI N) (jI mo) (jI mn) (fv mr) (jI s)),stepM] (.tup [.agg (TL 5 (jI i) (jI a) (jI o) (jI n) (fv r) (jI N) (jI mo) (jI mn) (fv mr) (jI s)),D0]):=
 pure_pat (args':=[d_ 4,stepM]) (ls:=[jI i,jI a,jI o,jI n,fv r,jI N,jI mo,jI mn,fv mr,jI s]) (c:=cD) (n:=300) mox ov (by cases r<;>cases mr<;>rfl) rfl (by cases r<;>cases mr<;>rfl) (by cases r<;>cases mr<;>rfl) (λY _=>rfl) (λY _=>u8_ _) rfl e4 λY hf hg=>ui_ rfl
theorem d5 (i a o n N mo mn:Int) (r mr:Option Nat) (s:Int):hR_ Tryz.prog 9 [.agg (TL 5 (jI i) (jI a) (jI o) (jI n) (fv r) (jI N) (jI mo) (jI mn) (fv mr) (jI s)),stepM] (.tup [.agg (TL 6 (jI i) (jI a) (jI o) (jI n) (fv r) (jI N) (jI mo) (jI mn) (fv mr) (jI a)),D0]):=
 pure_pat (args':=[d_ 5,stepM]) (ls:=[jI i,jI a,jI o,jI n,fv r,jI N,jI mo,jI mn,fv mr,jI s]) (c:=cD) (n:=300) mox ov (by cases r<;>cases mr<;>rfl) rfl (by cases r<;>cases mr<;>rfl) (by cases r<;>cases mr<;>rfl) (λY _=>rfl) (λY _=>u8_ _) rfl e5 λY hf hg=>ui_ rfl
theorem d7 (i a o n N mo mn:Int) (r mr:Option Nat) (s:Int):hR_ Tryz.prog 9 [.agg (TL 7 (jI i) (jI a) (jI o) (jI n) (fv r) (jI N) (jI mo) (jI mn) (fv mr) (jI s)),stepM] (.tup [.agg (TL 8 (jI i) (jI a) (jI o) (jI n) (fv r) (jI N) (jI s) (jI mn) (fv mr) (jI s)),D0]):=
 pure_pat (args':=[d_ 7,stepM]) (ls:=[jI i,jI a,jI o,jI n,fv r,jI N,jI mo,jI mn,fv mr,jI s]) (c:=cD) (n:=300) mox ov (by cases r<;>cases mr<;>rfl) rfl (by cases r<;>cases mr<;>rfl) (by cases r<;>cases mr<;>rfl) (λY _=>rfl) (λY _=>u8_ _) rfl e7 λY hf hg=>ui_ rfl
theorem d8 (i a o n N mo mn:Int) (r mr:Option Nat) (s:Int):hR_ Tryz.prog 9 [.agg (TL 8 (jI i) (jI a) (jI o) (jI n) (fv r) (jI N) (jI mo) (jI mn) (fv mr) (jI s)),stepM] (.tup [.agg (TL 9 (jI i) (jI a) (jI o) (jI n) (fv r) (jI N) (jI mo) (jI mn) (fv mr) (jI s)),D0]):=
 pure_pat (args':=[d_ 8,stepM]) (ls:=[jI i,jI a,jI o,jI n,fv r,jI N,jI mo,jI mn,fv mr,jI s]) (c:=cD) (n:=300) mox ov (by cases r<;>cases mr<;>rfl) rfl (by cases r<;>cases mr<;>rfl) (by cases r<;>cases mr<;>rfl) (λY _=>rfl) (λY _=>u8_ _) rfl e8 λY hf hg=>ui_ rfl
theorem d9 (i a o n N mo mn:Int) (r mr:Option Nat) (s:Int):hR_ Tryz.prog 9 [.agg (TL 9 (jI i) (jI a) (jI o) (jI n) (fv r) (jI N) (jI mo) (jI mn) (fv mr) (jI s)),stepM] (.tup [.agg (TL 10 (jI i) (jI a) (jI o) (jI n) (fv r) (jI N) (jI mo) (jI mn) (fv mr) (jI s)),D0]):=
 pure_pat (args':=[d_ 9,stepM]) (ls:=[jI i,jI a,jI o,jI n,fv r,jI N,jI mo,jI mn,fv mr,jI s]) (c:=cD) (n:=300) mox ov (by cases r<;>cases mr<;>rfl) rfl (by cases r<;>cases mr<;>rfl) (by cases r<;>cases mr<;>rfl) (λY _=>rfl) (λY _=>u8_ _) rfl e9 λY hf hg=>ui_ rfl
theorem d10 (i a o n N mo mn:Int) (r mr:Option Nat) (s:Int):hR_ Tryz.prog 9 [.agg (TL 10 (jI i) (jI a) (jI o) (jI n) (fv r) (jI N) (jI mo) (jI mn) (fv mr) (jI s)),stepM] (.tup [.agg (TL 11 (jI i) (jI a) (jI o) (jI n) (fv r) (jI N) (jI mo) (jI mn) (fv mr) (fv mr)),D0]):=
 pure_pat (args':=[d_ 10,stepM]) (ls:=[jI i,jI a,jI o,jI n,fv r,jI N,jI mo,jI mn,fv mr,jI s]) (c:=cD) (n:=300) mox ov (by cases r<;>cases mr<;>rfl) rfl (by cases r<;>cases mr<;>rfl) (by cases r<;>cases mr<;>rfl) (λY _=>rfl) (λY _=>u8_ _) rfl e10 λY hf hg=>ui_ rfl
theorem d11 (i a o n N mo mn:Int) (r mr:Option Nat) (s:Option Nat):hR_ Tryz.prog 9 [.agg (TL 11 (jI i) (jI a) (jI o) (jI n) (fv r) (jI N) (jI mo) (jI mn) (fv mr) (fv s)),stepM] (.tup [.agg (TL 12 (jI i) (jI a) (jI o) (jI n) (fv r) (jI N) (jI mo) (jI mn) (fv mr) (fv s)),D0]):=
 pure_pat (args':=[d_ 11,stepM]) (ls:=[jI i,jI a,jI o,jI n,fv r,jI N,jI mo,jI mn,fv mr,fv s]) (c:=cD) (n:=300) mox ov (by cases r<;>cases mr<;>cases s<;>rfl) rfl (by cases r<;>cases mr<;>cases s<;>rfl) (by cases r<;>cases mr<;>cases s<;>rfl) (λY _=>rfl) (λY _=>u8_ _) rfl e11 λY hf hg=>ui_ rfl
theorem d13 (i a o n N mo mn:Int) (r mr:Option Nat) (s:Option Nat):hR_ Tryz.prog 9 [.agg (TL 13 (jI i) (jI a) (jI o) (jI n) (fv r) (jI N) (jI mo) (jI mn) (fv mr) (fv s)),stepM] (.tup [.agg (TL 14 (jI i) (jI a) (jI o) (jI n) (fv r) (jI N) (jI mo) (jI mn) (fv s) (fv s)),D0]):=
 pure_pat (args':=[d_ 13,stepM]) (ls:=[jI i,jI a,jI o,jI n,fv r,jI N,jI mo,jI mn,fv mr,fv s]) (c:=cD) (n:=300) mox ov (by cases r<;>cases mr<;>cases s<;>rfl) rfl (by cases r<;>cases mr<;>cases s<;>rfl) (by cases r<;>cases mr<;>cases s<;>rfl) (λY _=>rfl) (λY _=>u8_ _) rfl e13 λY hf hg=>ui_ rfl
theorem d2 (i a o n N mo mn:Int) (r mr:Option Nat) (s:Int):hR_ Tryz.prog 9 [.agg (TL 2 (jI i) (jI a) (jI o) (jI n) (fv r) (jI N) (jI mo) (jI mn) (fv mr) (jI s)),stepM] (.tup [.agg (TL 3 (jI i) (jI a) (jI o) (jI n) (fv r) (jI N) (jI mo) (jI mn) (fv mr) (jI (k_ (u_ s) 1))),D0]):=by refine pure_pat (args':=[d_ 2,stepM]) (ls:=[jI i,jI a,jI o,jI n,fv r,jI N,jI mo,jI mn,fv mr,jI s]) (c:=cN) (n:=300) mox ov (by cases r<;>cases mr<;>rfl) rfl (by cases r<;>cases mr<;>rfl) (by cases r<;>cases mr<;>rfl) (λY _=>rfl) (λY _=>u8_ _) rfl e2 λY hf hg=>?_;unfold tM2;exact uh_ (q_ _) rfl rfl (uh_ (q_ _) rfl rfl (uh_ (bu_ _ _) rfl rfl (u1_ (run_neq ..) rfl (uP_ (t:=false) rfl (λh=>by cases h) (λ_=>ui_ rfl)))))
theorem d6 (i a o n N mo mn:Int) (r mr:Option Nat) (s:Int):hR_ Tryz.prog 9 [.agg (TL 6 (jI i) (jI a) (jI o) (jI n) (fv r) (jI N) (jI mo) (jI mn) (fv mr) (jI s)),stepM] (.tup [.agg (TL 7 (jI i) (jI a) (jI o) (jI n) (fv r) (jI N) (jI mo) (jI mn) (fv mr) (jI (k_ 0 (u_ s)))),D0]):=by refine pure_pat (args':=[d_ 6,stepM]) (ls:=[jI i,jI a,jI o,jI n,fv r,jI N,jI mo,jI mn,fv mr,jI s]) (c:=cN) (n:=300) mox ov (by cases r<;>cases mr<;>rfl) rfl (by cases r<;>cases mr<;>rfl) (by cases r<;>cases mr<;>rfl) (λY _=>rfl) (λY _=>u8_ _) rfl e6 λY hf hg=>?_;unfold tM6;exact uh_ (q_ _) rfl rfl (uh_ (q_ _) rfl rfl (uh_ (bu_ _ _) rfl rfl (u1_ (run_neq ..) rfl (uP_ (t:=false) rfl (λh=>by cases h) (λ_=>ui_ rfl)))))
theorem d12 (i a o n N mo mn:Int) (r mr:Option Nat) (s:Option Nat):hR_ Tryz.prog 9 [.agg (TL 12 (jI i) (jI a) (jI o) (jI n) (fv r) (jI N) (jI mo) (jI mn) (fv mr) (fv s)),stepM] (.tup [.agg (TL 13 (jI i) (jI a) (jI o) (jI n) (fv r) (jI N) (jI mo) (jI mn) (fv mr) (fv (p_ s))),D0]):=by refine pure_pat (args':=[d_ 12,stepM]) (ls:=[jI i,jI a,jI o,jI n,fv r,jI N,jI mo,jI mn,fv mr,fv s]) (c:=cD) (n:=300) mox ov (by cases r<;>cases mr<;>cases s<;>rfl) rfl (by cases r<;>cases mr<;>cases s<;>rfl) (by generalize p_ s=u;cases r<;>cases mr<;>cases u<;>rfl) (λY _=>rfl) (λY _=>u8_ _) rfl e12 λY hf hg=>?_;unfold tM12;exact u1_ (r:=fv (p_ s)) (uG_ _ .add _ _ _ s (some 4602678819172646912)) (vl_ _) (ui_ rfl)
theorem d14 (i a o n N mo mn:Int) (r mr:Option Nat) (s:Int):hR_ Tryz.prog 9 [.agg (TL 14 (jI i) (jI a) (jI o) (jI n) (fv r) (jI N) (jI mo) (jI mn) (fv mr) (jI s)),stepM] (.tup [.agg (TL 15 (jI i) (jI a) (jI mo) (jI mn) (fv mr) (jI (IntKind.i64.wrap (N+1))) (jI mo) (jI mn) (fv mr) (jI s)),D0]):=by refine pure_pat (args':=[d_ 14,stepM]) (ls:=[jI i,jI a,jI o,jI n,fv r,jI N,jI mo,jI mn,fv mr,jI s]) (c:=cD) (n:=300) mox ov (by cases r<;>cases mr<;>rfl) rfl (by cases r<;>cases mr<;>rfl) (by cases r<;>cases mr<;>rfl) (λY _=>rfl) (λY _=>u8_ _) rfl e14 λY hf hg=>?_;unfold tM14;exact u1_ (run_add ..) rfl (ui_ rfl)
theorem dO (i a o n N mo mn:Int) (r mr:Option Nat) (s:Int):hR_ Tryz.prog 9 [.agg (TL 15 (jI i) (jI a) (jI o) (jI n) (fv r) (jI N) (jI mo) (jI mn) (fv mr) (jI s)),stepM] (.tup [.agg (TL 0 (jI i) (jI i) (jI o) (jI n) (fv r) (jI N) (jI o) (jI n) (fv r) (jI s)),D0]):=
 pure_pat (args':=[d_ 15,stepM]) (ls:=[jI i,jI a,jI o,jI n,fv r,jI N,jI mo,jI mn,fv mr,jI s]) (c:=cD) (n:=300) mox ov (by cases r<;>cases mr<;>rfl) rfl (by cases r<;>cases mr<;>rfl) (by cases r<;>cases mr<;>rfl) (λY _=>rfl) (λY _=>u8_ _) rfl eO λY hf hg=>ui_ rfl
end Go.Proofs.YtaamplmpnmegdaaGreatDoor.vars
set_option maxRecDepth 100000
set_option linter.unusedVariables false
set_option linter.unusedSimpArgs false
namespace Go.Proofs.YtaamplmpnmegdaaGreatDoor.vars
open Go Go.Sx
structure SS where
 p:Nat
 i:Int
 a:Int
 o:Int
 n:Int
 r:Option Nat
 N:Int
 mo:Int
 mn:Int
 mr:Option Nat
 s:Int
 f:Option Nat
def SS.top (x:SS):AV:=match x.p with|11=>fv x.f|12=>fv x.f|13=>fv x.f|_=>jI x.s
def enc (x:SS):List AV:=TL x.p (jI x.i) (jI x.a) (jI x.o) (jI x.n) (fv x.r) (jI x.N) (jI x.mo) (jI x.mn) (fv x.mr) x.top
def nx (x:SS):SS:=match x.p with
 |0=>{ x with p:=1,s:=x.mn }
 |1=>{ x with p:=2 }
 |2=>{ x with p:=3,s:=k_ (u_ x.s) 1 }
 |3=>{ x with p:=4,mn:=x.s }
 |4=>{ x with p:=5 }
 |5=>{ x with p:=6,s:=x.a }
 |6=>{ x with p:=7,s:=k_ 0 (u_ x.s) }
 |7=>{ x with p:=8,mo:=x.s }
 |8=>{ x with p:=9 }
 |9=>{ x with p:=10 }
 |10=>{ x with p:=11,f:=x.mr }
 |11=>{ x with p:=12 }
 |12=>{ x with p:=13,f:=p_ x.f }
 |13=>{ x with p:=14,mr:=x.f }
 |_=>{ x with p:=15,o:=x.mo,n:=x.mn,r:=x.mr,N:=IntKind.i64.wrap (x.N+1) }
def bd (x:SS):SS:={ x with p:=0,a:=x.i,mo:=x.o,mn:=x.n,mr:=x.r }
theorem dNx (x:SS) (h:x.p<=14):hR_ Tryz.prog 9 [.agg (enc x),stepM] (.tup [.agg (enc (nx x)),D0]):=by
 obtain ⟨p,i,a,o,n,r,N,mo,mn,mr,s,f⟩:=x;have h:p<=14:=h
 match p,h with
 |0,_=>exact d0 i a o n N mo mn r mr s
 |1,_=>exact d1 i a o n N mo mn r mr s
 |2,_=>exact d2 i a o n N mo mn r mr s
 |3,_=>exact d3 i a o n N mo mn r mr s
 |4,_=>exact d4 i a o n N mo mn r mr s
 |5,_=>exact d5 i a o n N mo mn r mr s
 |6,_=>exact d6 i a o n N mo mn r mr s
 |7,_=>exact d7 i a o n N mo mn r mr s
 |8,_=>exact d8 i a o n N mo mn r mr s
 |9,_=>exact d9 i a o n N mo mn r mr s
 |10,_=>exact d10 i a o n N mo mn r mr s
 |11,_=>exact d11 i a o n N mo mn r mr f
 |12,_=>exact d12 i a o n N mo mn r mr f
 |13,_=>exact d13 i a o n N mo mn r mr f
 |14,_=>exact d14 i a o n N mo mn r mr s
theorem dBd (x:SS) (h:x.p=15):hR_ Tryz.prog 9 [.agg (enc x),stepM] (.tup [.agg (enc (bd x)),D0]):=by obtain ⟨p,i,a,o,n,r,N,mo,mn,mr,s,f⟩:=x;have h:p=15:=h;subst h;exact dO i a o n N mo mn r mr s
def run:Nat->SS->SS
 |0,x=>x
 |k+1,x=>run k (nx x)
theorem o_ {x:SS} (h:x.p<=14):(nx x).p=x.p+1:=by
 obtain ⟨p,i,a,o,n,r,N,mo,mn,mr,s,f⟩:=x;have h:p<=14:=h
 match p,h with
 |0,_|1,_|2,_|3,_|4,_|5,_|6,_|7,_|8,_|9,_|10,_|11,_|12,_|13,_|14,_=>rfl
theorem Z_ (x:SS):(nx x).i=x.i:=by unfold nx;split<;>rfl
theorem B_ {x:SS} (h:x.p<=13):(nx x).a=x.a/\(nx x).o=x.o/\(nx x).n=x.n/\(nx x).r=x.r:=by
 obtain ⟨p,i,a,o,n,r,N,mo,mn,mr,s,f⟩:=x;have h:p<=13:=h
 match p,h with
 |0,_|1,_|2,_|3,_|4,_|5,_|6,_|7,_|8,_|9,_|10,_|11,_|12,_|13,_=>exact ⟨rfl,rfl,rfl,rfl⟩
def a_ (x:SS):SS:=bd (run (15-x.p) x)
theorem x_:∀(k:Nat) (x:SS),(run k x).i=x.i
 |0,_=>rfl
 |k+1,x=>by rw [run,x_ k,Z_]
theorem s_ {x:SS} (h:x.p<=14):a_ (nx x)=a_ x:=by
 unfold a_;rw [o_ h];have e:15-x.p=(15-(x.p+1))+1:=by omega
 rw [e,run]
theorem r_ {x:SS} (h:x.p=15):a_ x=bd x:=by unfold a_;rw [h];rfl
theorem I_ (x:SS):(a_ x).p=0:=rfl
theorem H_ (x:SS):(a_ x).a=x.i:=by unfold a_ bd;exact x_ _ _
end Go.Proofs.YtaamplmpnmegdaaGreatDoor.vars
