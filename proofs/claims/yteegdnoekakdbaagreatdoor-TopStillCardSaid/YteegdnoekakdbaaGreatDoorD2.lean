/-
  Closed calls.
-/
import Derived.Test.YteegdnoekakdbaaGreatDoorT0
import Derived.Test.YteegdnoekakdbaaGreatDoorFA
set_option maxRecDepth 100000
set_option linter.unusedVariables false
namespace Go.Proofs.YteegdnoekakdbaaGreatDoor.vars
open Go Go.Sx
theorem i_: @kv_ (G []) Tryz.prog 12 [u22,.agg [.int .i64 8,.int .i64 1,.int .i64 0,.nsl,.int .i64 1,.int .i64 1,.flt .f64 0]] (.tup [u24,.agg [.int .i64 0,.nsl]]):= @uK_ (G []) Tryz.prog mox o0 3000 12 _ _ (by kernel_rfl)
theorem d32: @kv_ (G []) Tryz.prog 12 [u34,u13] (.tup [u35,.agg [.int .i64 0,.nsl]]):= @uK_ (G []) Tryz.prog mox o0 3000 12 _ _ (by kernel_rfl)
theorem d40: @kv_ (G []) Tryz.prog 12 [u44,u13] (.tup [u45,.agg [.int .i64 0,.nsl]]):= @uK_ (G []) Tryz.prog mox o0 3000 12 _ _ (by kernel_rfl)
theorem m_: @kv_ (G []) Tryz.prog 16 [.agg [.int .i64 2,.int .i64 3,.int .i64 0,.int .i64 0,.int .i64 0,.bool false,.int .i64 0,.int .i64 0,.int .i64 0,.flt .f64 0,.vsl 1 1 [.str [120]],.vsl 1 3 [.int .i64 2,.int .i64 0,.flt .f64 0]]] (u55):= @uK_ (G []) Tryz.prog mox o0 3000 16 _ _ (by kernel_rfl)
theorem d54: @kv_ (G []) Tryz.prog 14 [u66] (.tup [.agg [.int .i64 6,.int .i64 2,.int .i64 0,.int .i64 0,.int .i64 0,.bool false,.int .i64 0,.int .i64 0,.int .i64 0,.flt .f64 0,.nsl,u60],.bool true]):= @uK_ (G []) Tryz.prog mox o0 3000 14 _ _ (by kernel_rfl)
theorem d62: @kv_ (G []) Tryz.prog 12 [u77,u11] (u78):= @uK_ (G []) Tryz.prog mox o0 3000 12 _ _ (by kernel_rfl)
theorem d70: @kv_ (G []) Tryz.prog 12 [u85,u13] (.tup [u86,.agg [.int .i64 0,.nsl]]):= @uK_ (G []) Tryz.prog mox o0 3000 12 _ _ (by kernel_rfl)
theorem d78: @kv_ (G []) Tryz.prog 12 [u95,u13] (.tup [u96,.agg [.int .i64 0,.nsl]]):= @uK_ (G []) Tryz.prog mox o0 3000 12 _ _ (by kernel_rfl)
theorem d86: @kv_ (G []) Tryz.prog 12 [u106,u17] (.tup [u107,.agg [.int .i64 0,u108]]):= @uK_ (G []) Tryz.prog mox o0 3000 12 _ _ (by kernel_rfl)
theorem d94: @kv_ (G []) Tryz.prog 12 [u113,u11] (u114):= @uK_ (G []) Tryz.prog mox o0 3000 12 _ _ (by kernel_rfl)
theorem wD_: @kv_ (G []) Tryz.prog 12 [u121,u13] (.tup [u122,.agg [.int .i64 0,.nsl]]):= @uK_ (G []) Tryz.prog mox o0 3000 12 _ _ (by kernel_rfl)
theorem wL_: @kv_ (G []) Tryz.prog 12 [u131,u13] (.tup [u132,.agg [.int .i64 0,.nsl]]):= @uK_ (G []) Tryz.prog mox o0 3000 12 _ _ (by kernel_rfl)
theorem wT_: @kv_ (G []) Tryz.prog 12 [u142,u17] (.tup [u143,.agg [.int .i64 0,u144]]):= @uK_ (G []) Tryz.prog mox o0 3000 12 _ _ (by kernel_rfl)
theorem w1_: @kv_ (G []) Tryz.prog 12 [u149,u11] (u150):= @uK_ (G []) Tryz.prog mox o0 3000 12 _ _ (by kernel_rfl)
theorem w9_: @kv_ (G []) Tryz.prog 12 [u157,u13] (.tup [u158,.agg [.int .i64 0,.nsl]]):= @uK_ (G []) Tryz.prog mox o0 3000 12 _ _ (by kernel_rfl)
theorem xh_: @kv_ (G []) Tryz.prog 12 [u167,u13] (.tup [u168,.agg [.int .i64 0,.nsl]]):= @uK_ (G []) Tryz.prog mox o0 3000 12 _ _ (by kernel_rfl)
theorem xp_: @kv_ (G []) Tryz.prog 12 [u178,u17] (.tup [u179,.agg [.int .i64 0,u180]]):= @uK_ (G []) Tryz.prog mox o0 3000 12 _ _ (by kernel_rfl)
theorem xx_: @kv_ (G []) Tryz.prog 12 [u185,u11] (u186):= @uK_ (G []) Tryz.prog mox o0 3000 12 _ _ (by kernel_rfl)
theorem xF_: @kv_ (G []) Tryz.prog 12 [u193,u13] (.tup [u194,.agg [.int .i64 0,.nsl]]):= @uK_ (G []) Tryz.prog mox o0 3000 12 _ _ (by kernel_rfl)
theorem xN_: @kv_ (G []) Tryz.prog 12 [u203,u13] (.tup [u204,.agg [.int .i64 0,.nsl]]):= @uK_ (G []) Tryz.prog mox o0 3000 12 _ _ (by kernel_rfl)
theorem xV_: @kv_ (G []) Tryz.prog 12 [u214,u17] (.tup [u215,.agg [.int .i64 0,u216]]):= @uK_ (G []) Tryz.prog mox o0 3000 12 _ _ (by kernel_rfl)
theorem x3_: @kv_ (G []) Tryz.prog 12 [u221,u11] (u222):= @uK_ (G []) Tryz.prog mox o0 3000 12 _ _ (by kernel_rfl)
theorem yb_: @kv_ (G []) Tryz.prog 12 [u229,u13] (.tup [u230,.agg [.int .i64 0,.nsl]]):= @uK_ (G []) Tryz.prog mox o0 3000 12 _ _ (by kernel_rfl)
theorem yj_: @kv_ (G []) Tryz.prog 12 [u239,u13] (.tup [u240,.agg [.int .i64 0,.nsl]]):= @uK_ (G []) Tryz.prog mox o0 3000 12 _ _ (by kernel_rfl)
theorem yr_: @kv_ (G []) Tryz.prog 12 [u250,u17] (.tup [u251,.agg [.int .i64 0,u252]]):= @uK_ (G []) Tryz.prog mox o0 3000 12 _ _ (by kernel_rfl)
theorem yz_: @kv_ (G []) Tryz.prog 12 [u257,u11] (u258):= @uK_ (G []) Tryz.prog mox o0 3000 12 _ _ (by kernel_rfl)
end Go.Proofs.YteegdnoekakdbaaGreatDoor.vars
