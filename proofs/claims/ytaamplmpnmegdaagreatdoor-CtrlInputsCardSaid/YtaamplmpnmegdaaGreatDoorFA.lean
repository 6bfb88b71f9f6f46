/-
  A symbol as a number, a number as a value: short names for trees.
-/
import Derived.Test.YtaamplmpnmegdaaGreatDoorSyQ
import Derived.Test.YtaamplmpnmegdaaGreatDoorRows
import Derived.KernelRfl
import Derived.Test.YtaamplmpnmegdaaGreatDoorSyE
namespace Go.Proofs.YtaamplmpnmegdaaGreatDoor.vars
open Go Go.Sx
instance symN (n:Nat):OfNat AV n:=⟨.sym n⟩
abbrev J (n:Int):AV:=.int .i64 n
abbrev K (o:XOp) (a:List AV) (i:Nat) (t:VT):VT:=.lt o a i none t
abbrev Q0:XOp:=.bin .neq 30 false true
abbrev Li (o:XOp) (a:List AV) (n:Nat) (t:VT):VT:=.lt o a n none t
abbrev It (o:XOp) (a:List AV) (n:Nat) (A B:VT):VT:=.lt o a n none (.ite n A B)
abbrev Iq (i:Nat) (k:Int) (n:Nat) (A B:VT):VT:=.lt Q0 [.sym i,J k] n none (.ite n A B)
abbrev Dn (l:List AV):VT:=.done (.tup (J 0::l))
abbrev Cf (f:FuncId) (t:FT) (h:List AV) (n k:Nat) (b:VT):VT:=.callF f t h n (.cons k b .nil)
abbrev Q1:XOp:=.bin .add 3 false true
abbrev Q3:XOp:=.un .not
abbrev Q4:XOp:=.iaddr 22
abbrev Q5:XOp:=.iaddr 48
abbrev Q6:XOp:=.load 5
abbrev Q7:XOp:=.bin .eql 2 false false
abbrev Q9:XOp:=.bin .neq 3 false true
abbrev Qa:XOp:=.bin .lss 3 false false
abbrev Qb:XOp:=.conv 5 2
abbrev Qc:XOp:=.bin .add 2 false false
abbrev Qe:XOp:=.bin .gtr 3 false true
abbrev Qi:XOp:=.bin .neq 2 false false
end Go.Proofs.YtaamplmpnmegdaaGreatDoor.vars
set_option linter.unusedVariables false
namespace Go.Proofs.YtaamplmpnmegdaaGreatDoor.vars
open Go Go.Sx
def VARS2:AV:=.vsl 7 10 [.str [97],.int .i64 1,.int .i64 2,.int .i64 0,.int .i64 2,.int .i64 0,.flt .f64 0,.int .i64 0,.int .i64 0,.flt .f64 0,.str [98],.int .i64 1,.int .i64 1,.int .i64 0,.int .i64 1,.int .i64 0,.flt .f64 0,.int .i64 0,.int .i64 0,.flt .f64 0,.str [111],.int .i64 2,.int .i64 2,.int .i64 0,.int .i64 2,.int .i64 1,.flt .f64 0,.int .i64 2,.int .i64 9,.flt .f64 0,.str [110],.int .i64 3,.int .i64 2,.int .i64 0,.int .i64 2,.int .i64 0,.flt .f64 0,.int .i64 0,.int .i64 0,.flt .f64 0,.str [120],.int .i64 3,.int .i64 2,.int .i64 0,.int .i64 2,.int .i64 0,.flt .f64 0,.int .i64 0,.int .i64 0,.flt .f64 0,.str [114],.int .i64 3,.int .i64 5,.int .i64 0,.int .i64 5,.int .i64 0,.flt .f64 0,.int .i64 0,.int .i64 0,.flt .f64 0,.str [107],.int .i64 3,.int .i64 2,.int .i64 3,.int .i64 2,.int .i64 0,.flt .f64 0,.int .i64 0,.int .i64 0,.flt .f64 0]
def BODY2:AV:=.vsl 4 27 [.int .i64 1,.int .i64 2,.int .i64 2,.str [110],.str [],.int .i64 3,.int .i64 0,.int .i64 0,.int .i64 0,.flt .f64 0,.nsl,.int .i64 4,.int .i64 2,.str [],.str [],.int .i64 0,.int .i64 0,.int .i64 0,.int .i64 0,.flt .f64 0,.vsl 2 10 [.int .i64 2,.int .i64 2,.str [110],.str [],.int .i64 3,.int .i64 0,.int .i64 0,.int .i64 0,.flt .f64 0,.nsl,.int .i64 1,.int .i64 2,.str [],.str [],.int .i64 0,.int .i64 0,.int .i64 2,.int .i64 1,.flt .f64 0,.nsl],.nsl,.nsl,.str [],.int .i64 0,.int .i64 0,.nsl,.int .i64 1,.int .i64 2,.int .i64 2,.str [111],.str [],.int .i64 2,.int .i64 0,.int .i64 0,.int .i64 0,.flt .f64 0,.nsl,.int .i64 4,.int .i64 2,.str [],.str [],.int .i64 0,.int .i64 0,.int .i64 0,.int .i64 0,.flt .f64 0,.vsl 2 10 [.int .i64 2,.int .i64 2,.str [120],.str [],.int .i64 4,.int .i64 0,.int .i64 0,.int .i64 0,.flt .f64 0,.nsl,.int .i64 2,.int .i64 2,.str [97],.str [],.int .i64 0,.int .i64 0,.int .i64 0,.int .i64 0,.flt .f64 0,.nsl],.nsl,.nsl,.str [],.int .i64 0,.int .i64 0,.nsl,.int .i64 2,.int .i64 0,.int .i64 0,.str [],.str [],.int .i64 0,.int .i64 0,.int .i64 0,.int .i64 0,.flt .f64 0,.nsl,.int .i64 2,.int .i64 1,.str [98],.str [],.int .i64 1,.int .i64 0,.int .i64 0,.int .i64 0,.flt .f64 0,.nsl,.vsl 1 27 [.int .i64 1,.int .i64 3,.int .i64 2,.str [107],.str [],.int .i64 6,.int .i64 3,.int .i64 0,.int .i64 0,.flt .f64 0,.vsl 1 10 [.int .i64 2,.int .i64 2,.str [120],.str [],.int .i64 4,.int .i64 0,.int .i64 0,.int .i64 0,.flt .f64 0,.nsl],.int .i64 2,.int .i64 2,.str [97],.str [],.int .i64 0,.int .i64 0,.int .i64 0,.int .i64 0,.flt .f64 0,.nsl,.nsl,.nsl,.str [],.int .i64 0,.int .i64 0,.nsl],.nsl,.str [],.int .i64 0,.int .i64 0,.nsl,.int .i64 1,.int .i64 2,.int .i64 5,.str [114],.str [],.int .i64 5,.int .i64 0,.int .i64 0,.int .i64 0,.flt .f64 0,.nsl,.int .i64 4,.int .i64 5,.str [],.str [],.int .i64 0,.int .i64 0,.int .i64 0,.int .i64 0,.flt .f64 0,.vsl 2 10 [.int .i64 2,.int .i64 5,.str [114],.str [],.int .i64 5,.int .i64 0,.int .i64 0,.int .i64 0,.flt .f64 0,.nsl,.int .i64 1,.int .i64 5,.str [],.str [],.int .i64 0,.int .i64 0,.int .i64 5,.int .i64 0,.flt .f64 4602678819172646912,.nsl],.nsl,.nsl,.str [],.int .i64 0,.int .i64 0,.nsl]
def CODE2:AV:=.vsl 18 7 [.int .i64 2,.int .i64 0,.int .i64 3,.int .i64 0,.int .i64 0,.int .i64 0,.flt .f64 0,.int .i64 1,.int .i64 2,.int .i64 0,.int .i64 0,.int .i64 2,.int .i64 1,.flt .f64 0,.int .i64 4,.int .i64 2,.int .i64 0,.int .i64 0,.int .i64 0,.int .i64 0,.flt .f64 0,.int .i64 18,.int .i64 0,.int .i64 3,.int .i64 0,.int .i64 0,.int .i64 0,.flt .f64 0,.int .i64 2,.int .i64 0,.int .i64 4,.int .i64 0,.int .i64 0,.int .i64 0,.flt .f64 0,.int .i64 2,.int .i64 0,.int .i64 0,.int .i64 0,.int .i64 0,.int .i64 0,.flt .f64 0,.int .i64 4,.int .i64 2,.int .i64 0,.int .i64 0,.int .i64 0,.int .i64 0,.flt .f64 0,.int .i64 18,.int .i64 0,.int .i64 2,.int .i64 0,.int .i64 0,.int .i64 0,.flt .f64 0,.int .i64 2,.int .i64 0,.int .i64 1,.int .i64 0,.int .i64 0,.int .i64 0,.flt .f64 0,.int .i64 21,.int .i64 0,.int .i64 13,.int .i64 0,.int .i64 0,.int .i64 0,.flt .f64 0,.int .i64 2,.int .i64 0,.int .i64 0,.int .i64 0,.int .i64 0,.int .i64 0,.flt .f64 0,.int .i64 2,.int .i64 0,.int .i64 4,.int .i64 0,.int .i64 0,.int .i64 0,.flt .f64 0,.int .i64 19,.int .i64 0,.int .i64 6,.int .i64 3,.int .i64 0,.int .i64 0,.flt .f64 0,.int .i64 2,.int .i64 0,.int .i64 5,.int .i64 0,.int .i64 0,.int .i64 0,.flt .f64 0,.int .i64 1,.int .i64 5,.int .i64 0,.int .i64 0,.int .i64 5,.int .i64 0,.flt .f64 4602678819172646912,.int .i64 4,.int .i64 5,.int .i64 0,.int .i64 0,.int .i64 0,.int .i64 0,.flt .f64 0,.int .i64 18,.int .i64 0,.int .i64 5,.int .i64 0,.int .i64 0,.int .i64 0,.flt .f64 0,.int .i64 23,.int .i64 0,.int .i64 0,.int .i64 0,.int .i64 0,.int .i64 0,.flt .f64 0]
def SESS0:AV:=.vsl 4 8 [.bool false,.int .i64 0,.nsl,.bool false,.nsl,.nsl,.nsl,.int .i64 0,.bool false,.int .i64 0,.nsl,.bool false,.nsl,.nsl,.nsl,.int .i64 0,.bool false,.int .i64 0,.nsl,.bool false,.nsl,.nsl,.nsl,.int .i64 0,.bool false,.int .i64 0,.nsl,.bool false,.nsl,.nsl,.nsl,.int .i64 0]
def e_ (a o n r:AV):List AV:=[.int .i64 2,a,.flt .f64 0,.int .i64 1,.int .i64 0,.flt .f64 0,.int .i64 2,o,.flt .f64 0,.int .i64 2,n,.flt .f64 0,.int .i64 2,.int .i64 0,.flt .f64 0,.int .i64 5,.int .i64 0,r,.int .i64 2,.int .i64 0,.flt .f64 0,.int .i64 2,.int .i64 0,.flt .f64 0,.int .i64 2,.int .i64 0,.flt .f64 0]
def ctlL (img:List AV) (pc:Int) (stk mem:AV) (used:Int) (ov:Bool) (N:AV) (inn:List AV):List AV:=
 [VARS2,BODY2,VARS2,CODE2,.int .i64 100,.vsl 9 3 img,.int .i64 pc,stk,mem,.int .i64 used,.int .i64 0,.bool ov,.int .i64 0,.int .i64 0,N,.int .i64 0,SESS0,.nsl,.vsl 9 3 inn]
def iV (x:AV):List AV:=[.int .i64 2,x,.flt .f64 0]
def rV (x:AV):List AV:=[.int .i64 5,.int .i64 0,x]
def bW_:Nat->Int|0=>0|1=>1|2=>2|3=>3|4=>4|5=>5|6=>6|7=>7|8=>8|9=>9|10=>13|11=>14|12=>15|13=>16|_=>17
def t_ (s:AV):Nat->AV
 |0=>.nsl
 |1=>.vsl 1 3 (iV s)
 |2=>.vsl 2 3 (iV s++iV (.int .i64 1))
 |3=>.vsl 1 3 (iV s)
 |5=>.vsl 1 3 (iV (.int .i64 0))
 |6=>.vsl 2 3 (iV (.int .i64 0)++iV s)
 |7=>.vsl 1 3 (iV s)
 |9=>.vsl 1 3 [.int .i64 1,.int .i64 0,.flt .f64 0]
 |11=>.vsl 1 3 (rV s)
 |12=>.vsl 2 3 (rV s++rV (.flt .f64 4602678819172646912))
 |13=>.vsl 1 3 (rV s)
 |_=>.vsl 0 3 []
def TL (p:Nat) (i a o n r N mo mn mr s:AV):List AV:=
 ctlL (e_ a o n r) (bW_ p) (t_ s p) (.vsl 9 3 (e_ a mo mn mr)) (p:Int) (Nat.beq p 15) N (e_ i (.int .i64 1) (.int .i64 0) (.flt .f64 0))
def stepM:AV:=.agg [.int .i64 1,.int .i64 0,.int .i64 0,.nsl,.int .i64 0,.int .i64 0,.flt .f64 0]
def i_ (v:AV):AV:=.agg [.int .i64 8,.int .i64 0,.int .i64 0,.nsl,.int .i64 2,v,.flt .f64 0]
def d_ (p:Nat):AV:=.agg (TL p (.sym 64) (.sym 65) (.sym 66) (.sym 67) (.sym 68) (.sym 69) (.sym 70) (.sym 71) (.sym 72) (.sym 73))
def imgS:AV:=.vsl 9 3 (e_ (.sym 64) (.sym 65) (.sym 66) (.sym 67))
end Go.Proofs.YtaamplmpnmegdaaGreatDoor.vars
set_option maxRecDepth 100000
set_option linter.unusedVariables false
set_option linter.unusedSimpArgs false
namespace Go.Proofs.YtaamplmpnmegdaaGreatDoor.vars
open Go Go.Sx
instance gI:Gl:=en_ 1 []
theorem mox:Tryz.prog.follows .mixedOrders=true:=by kernel_rfl
theorem ov:lq_ Tryz.prog:=uU_ 1 _
abbrev jI (n:Int):AV:=.int .i64 n
def D0:AV:=.agg [.int .i64 0,.nsl]
def cD:VC:=⟨⟨[],[]⟩,[],[],0,true,[]⟩
def u_ (a:Int):Int:=IntKind.i64.wrap (IntKind.i16.wrap a)
def k_ (a b:Int):Int:=u_ (IntKind.i64.wrap (a+b))
def p_ (a:Option Nat):Option Nat:=ft_ FloatKind.f64.format.add a (some 4602678819172646912)
def tM12:VT:=.lt (.bin .add 49 false false) [.sym 73,.flt .f64 4602678819172646912] 74 none (.done (.tup [.agg (TL 13 (.sym 64) (.sym 65) (.sym 66) (.sym 67) (.sym 68) (.sym 69) (.sym 70) (.sym 71) (.sym 72) (.sym 74)),D0]))
def tM14:VT:=.lt (.bin .add 3 false true) [.sym 69,.int .i64 1] 74 none (.done (.tup [.agg (TL 15 (.sym 64) (.sym 65) (.sym 70) (.sym 71) (.sym 72) (.sym 74) (.sym 70) (.sym 71) (.sym 72) (.sym 73)),D0]))
def tI:VT:=.lt (.conv 2 259) [.sym 74] 75 none (.lt (.conv 259 2) [.sym 75] 76 none (.lt (.bin .eql 2 false false) [.sym 74,.sym 76] 77 none (.lt (.un .not) [.sym 77] 78 none (.ite 78
 (.done (.tup [.agg (TL 0 (64) (65) (66) (67) (68) (69) (70) (71) (72) (73)),.agg [J 4,.nsl]]))
 (.done (.tup [.agg (TL 0 (74) (65) (66) (67) (68) (69) (70) (71) (72) (73)),D0]))))))
end Go.Proofs.YtaamplmpnmegdaaGreatDoor.vars
set_option maxRecDepth 100000
namespace Go.Proofs.YtaamplmpnmegdaaGreatDoor.vars
open Go Go.Sx
theorem e0:vFn Tryz.prog 300 cD 9 [d_ 0,stepM] 74=.done (.tup [.agg (TL 1 (.sym 64) (.sym 65) (.sym 66) (.sym 67) (.sym 68) (.sym 69) (.sym 70) (.sym 71) (.sym 72) (.sym 71)),D0]):=by kernel_rfl
theorem e1:vFn Tryz.prog 300 cD 9 [d_ 1,stepM] 74=.done (.tup [.agg (TL 2 (.sym 64) (.sym 65) (.sym 66) (.sym 67) (.sym 68) (.sym 69) (.sym 70) (.sym 71) (.sym 72) (.sym 73)),D0]):=by kernel_rfl
theorem e3:vFn Tryz.prog 300 cD 9 [d_ 3,stepM] 74=.done (.tup [.agg (TL 4 (.sym 64) (.sym 65) (.sym 66) (.sym 67) (.sym 68) (.sym 69) (.sym 70) (.sym 73) (.sym 72) (.sym 73)),D0]):=by kernel_rfl
end Go.Proofs.YtaamplmpnmegdaaGreatDoor.vars
set_option maxRecDepth 100000
namespace Go.Proofs.YtaamplmpnmegdaaGreatDoor.vars
open Go Go.Sx
theorem e4:vFn Tryz.prog 300 cD 9 [d_ 4,stepM] 74=.done (.tup [.agg (TL 5 (.sym 64) (.sym 65) (.sym 66) (.sym 67) (.sym 68) (.sym 69) (.sym 70) (.sym 71) (.sym 72) (.sym 73)),D0]):=by kernel_rfl
theorem e5:vFn Tryz.prog 300 cD 9 [d_ 5,stepM] 74=.done (.tup [.agg (TL 6 (.sym 64) (.sym 65) (.sym 66) (.sym 67) (.sym 68) (.sym 69) (.sym 70) (.sym 71) (.sym 72) (.sym 65)),D0]):=by kernel_rfl
theorem e7:vFn Tryz.prog 300 cD 9 [d_ 7,stepM] 74=.done (.tup [.agg (TL 8 (.sym 64) (.sym 65) (.sym 66) (.sym 67) (.sym 68) (.sym 69) (.sym 73) (.sym 71) (.sym 72) (.sym 73)),D0]):=by kernel_rfl
end Go.Proofs.YtaamplmpnmegdaaGreatDoor.vars
set_option maxRecDepth 100000
namespace Go.Proofs.YtaamplmpnmegdaaGreatDoor.vars
open Go Go.Sx
theorem e8:vFn Tryz.prog 300 cD 9 [d_ 8,stepM] 74=.done (.tup [.agg (TL 9 (.sym 64) (.sym 65) (.sym 66) (.sym 67) (.sym 68) (.sym 69) (.sym 70) (.sym 71) (.sym 72) (.sym 73)),D0]):=by kernel_rfl
theorem e9:vFn Tryz.prog 300 cD 9 [d_ 9,stepM] 74=.done (.tup [.agg (TL 10 (.sym 64) (.sym 65) (.sym 66) (.sym 67) (.sym 68) (.sym 69) (.sym 70) (.sym 71) (.sym 72) (.sym 73)),D0]):=by kernel_rfl
theorem e10:vFn Tryz.prog 300 cD 9 [d_ 10,stepM] 74=.done (.tup [.agg (TL 11 (.sym 64) (.sym 65) (.sym 66) (.sym 67) (.sym 68) (.sym 69) (.sym 70) (.sym 71) (.sym 72) (.sym 72)),D0]):=by kernel_rfl
end Go.Proofs.YtaamplmpnmegdaaGreatDoor.vars
set_option maxRecDepth 100000
namespace Go.Proofs.YtaamplmpnmegdaaGreatDoor.vars
open Go Go.Sx
theorem e11:vFn Tryz.prog 300 cD 9 [d_ 11,stepM] 74=.done (.tup [.agg (TL 12 (.sym 64) (.sym 65) (.sym 66) (.sym 67) (.sym 68) (.sym 69) (.sym 70) (.sym 71) (.sym 72) (.sym 73)),D0]):=by kernel_rfl
theorem e13:vFn Tryz.prog 300 cD 9 [d_ 13,stepM] 74=.done (.tup [.agg (TL 14 (.sym 64) (.sym 65) (.sym 66) (.sym 67) (.sym 68) (.sym 69) (.sym 70) (.sym 71) (.sym 73) (.sym 73)),D0]):=by kernel_rfl
end Go.Proofs.YtaamplmpnmegdaaGreatDoor.vars
