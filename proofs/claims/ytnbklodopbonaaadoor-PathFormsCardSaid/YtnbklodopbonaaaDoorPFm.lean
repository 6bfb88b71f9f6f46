/-
  Calls of plain values, run: what each gives.
-/
import Derived.Test.YtnbklodopbonaaaDoorRows
import Derived.Test.YtnbklodopbonaaaDoorSxY
import Derived.KernelRfl
set_option maxRecDepth 100000
namespace Go.Proofs.YtnbklodopbonaaaDoor.PF
open Go.Sx
theorem mo : Tryd.prog.follows .mixedOrders = true := by kernel_rfl
abbrev G (l : List (FuncId × List AV × AV)) : Gl := glT gl0 nr0 l
theorem o0 : @OvOk (G []) Tryd.prog := ov_nil gl0 nr0 Tryd.prog
def a0 : List AV := []
def v0 : AV := .bool true
theorem e0 : @memo (G []) Tryd.prog 3000 10 a0 v0 = true := by kernel_rfl
def l1 : List (FuncId × List AV × AV) := (10, a0, v0) :: []
theorem o1 : @OvOk (G l1) Tryd.prog := ov_cons o0 (@memo_ok (G []) Tryd.prog mo o0 3000 10 a0 v0 e0)
def a1 : List AV := [.nsl]
def v1 : AV := .nsl
theorem e1 : @memo (G l1) Tryd.prog 3000 13 a1 v1 = true := by kernel_rfl
def l2 : List (FuncId × List AV × AV) := (13, a1, v1) :: l1
theorem o2 : @OvOk (G l2) Tryd.prog := ov_cons o1 (@memo_ok (G l1) Tryd.prog mo o1 3000 13 a1 v1 e1)
theorem run : @runTrue (G l2) Tryd.prog 3000 3 = true := by kernel_rfl
theorem walk (w : World) : Calls Tryd.prog 3 #[] w fun e w' => e = .returned (.bool true) ∧ RowKit.Grown w w' := run0 mo o2 run w
end Go.Proofs.YtnbklodopbonaaaDoor.PF
