/-
  Closed calls.
-/
import Derived.Test.YteegdnoekakdbaaGreatDoorT0
import Derived.Test.YteegdnoekakdbaaGreatDoorFA
set_option maxRecDepth 100000
set_option linter.unusedVariables false
namespace Go.Proofs.YteegdnoekakdbaaGreatDoor.vars
open Go Go.Sx
theorem d26: @kv_ (G []) Tryz.prog 16 [.agg [.int .i64 2,.int .i64 1,.int .i64 0,.int .i64 0,.int .i64 0,.bool false,.int .i64 0,.int .i64 0,.int .i64 0,.flt .f64 0,.vsl 1 1 [.str [120]],.vsl 1 3 [.int .i64 2,.int .i64 3,.flt .f64 0]]] (u25):= @uK_ (G []) Tryz.prog mox o0 3000 16 _ _ (by kernel_rfl)
theorem d34: @kv_ (G []) Tryz.prog 12 [u37,u13] (.tup [u38,.agg [.int .i64 0,.nsl]]):= @uK_ (G []) Tryz.prog mox o0 3000 12 _ _ (by kernel_rfl)
theorem d42: @kv_ (G []) Tryz.prog 12 [u47,u13] (u50):= @uK_ (G []) Tryz.prog mox o0 3000 12 _ _ (by kernel_rfl)
theorem d50: @kv_ (G []) Tryz.prog 12 [u58,u11] (.tup [u61,.agg [.int .i64 0,.nsl]]):= @uK_ (G []) Tryz.prog mox o0 3000 12 _ _ (by kernel_rfl)
theorem d56: @kv_ (G []) Tryz.prog 12 [u68,u11] (.tup [u70,.agg [.int .i64 0,.nsl]]):= @uK_ (G []) Tryz.prog mox o0 3000 12 _ _ (by kernel_rfl)
theorem d64: @kv_ (G []) Tryz.prog 16 [.agg [.int .i64 2,.int .i64 1,.int .i64 0,.int .i64 0,.int .i64 0,.bool false,.int .i64 0,.int .i64 0,.int .i64 0,.flt .f64 0,.vsl 1 1 [.str [120]],.vsl 1 3 [.int .i64 2,.int .i64 4,.flt .f64 0]]] (u79):= @uK_ (G []) Tryz.prog mox o0 3000 16 _ _ (by kernel_rfl)
theorem d72: @kv_ (G []) Tryz.prog 12 [u88,u13] (.tup [u89,.agg [.int .i64 0,.nsl]]):= @uK_ (G []) Tryz.prog mox o0 3000 12 _ _ (by kernel_rfl)
theorem d80: @kv_ (G []) Tryz.prog 12 [u98,u13] (u101):= @uK_ (G []) Tryz.prog mox o0 3000 12 _ _ (by kernel_rfl)
theorem d88: @kv_ (G []) Tryz.prog 14 [u109] (.tup [.agg [.int .i64 6,.int .i64 2,.int .i64 0,.int .i64 0,.int .i64 0,.bool false,.int .i64 0,.int .i64 0,.int .i64 0,.flt .f64 0,.nsl,u104],.bool true]):= @uK_ (G []) Tryz.prog mox o0 3000 14 _ _ (by kernel_rfl)
theorem d96: @kv_ (G []) Tryz.prog 16 [.agg [.int .i64 2,.int .i64 1,.int .i64 0,.int .i64 0,.int .i64 0,.bool false,.int .i64 0,.int .i64 0,.int .i64 0,.flt .f64 0,.vsl 1 1 [.str [120]],.vsl 1 3 [.int .i64 2,.int .i64 5,.flt .f64 0]]] (u115):= @uK_ (G []) Tryz.prog mox o0 3000 16 _ _ (by kernel_rfl)
theorem wF_: @kv_ (G []) Tryz.prog 12 [u124,u13] (.tup [u125,.agg [.int .i64 0,.nsl]]):= @uK_ (G []) Tryz.prog mox o0 3000 12 _ _ (by kernel_rfl)
theorem wN_: @kv_ (G []) Tryz.prog 12 [u134,u13] (u137):= @uK_ (G []) Tryz.prog mox o0 3000 12 _ _ (by kernel_rfl)
theorem wV_: @kv_ (G []) Tryz.prog 14 [u145] (.tup [.agg [.int .i64 6,.int .i64 2,.int .i64 0,.int .i64 0,.int .i64 0,.bool false,.int .i64 0,.int .i64 0,.int .i64 0,.flt .f64 0,.nsl,u140],.bool true]):= @uK_ (G []) Tryz.prog mox o0 3000 14 _ _ (by kernel_rfl)
theorem w3_: @kv_ (G []) Tryz.prog 16 [.agg [.int .i64 2,.int .i64 1,.int .i64 0,.int .i64 0,.int .i64 0,.bool false,.int .i64 0,.int .i64 0,.int .i64 0,.flt .f64 0,.vsl 1 1 [.str [120]],.vsl 1 3 [.int .i64 2,.int .i64 6,.flt .f64 0]]] (u151):= @uK_ (G []) Tryz.prog mox o0 3000 16 _ _ (by kernel_rfl)
theorem xb_: @kv_ (G []) Tryz.prog 12 [u160,u13] (.tup [u161,.agg [.int .i64 0,.nsl]]):= @uK_ (G []) Tryz.prog mox o0 3000 12 _ _ (by kernel_rfl)
theorem xj_: @kv_ (G []) Tryz.prog 12 [u170,u13] (u173):= @uK_ (G []) Tryz.prog mox o0 3000 12 _ _ (by kernel_rfl)
theorem xr_: @kv_ (G []) Tryz.prog 14 [u181] (.tup [.agg [.int .i64 6,.int .i64 2,.int .i64 0,.int .i64 0,.int .i64 0,.bool false,.int .i64 0,.int .i64 0,.int .i64 0,.flt .f64 0,.nsl,u176],.bool true]):= @uK_ (G []) Tryz.prog mox o0 3000 14 _ _ (by kernel_rfl)
theorem xz_: @kv_ (G []) Tryz.prog 16 [.agg [.int .i64 2,.int .i64 1,.int .i64 0,.int .i64 0,.int .i64 0,.bool false,.int .i64 0,.int .i64 0,.int .i64 0,.flt .f64 0,.vsl 1 1 [.str [120]],.vsl 1 3 [.int .i64 2,.int .i64 7,.flt .f64 0]]] (u187):= @uK_ (G []) Tryz.prog mox o0 3000 16 _ _ (by kernel_rfl)
theorem xH_: @kv_ (G []) Tryz.prog 12 [u196,u13] (.tup [u197,.agg [.int .i64 0,.nsl]]):= @uK_ (G []) Tryz.prog mox o0 3000 12 _ _ (by kernel_rfl)
theorem xP_: @kv_ (G []) Tryz.prog 12 [u206,u13] (u209):= @uK_ (G []) Tryz.prog mox o0 3000 12 _ _ (by kernel_rfl)
theorem xX_: @kv_ (G []) Tryz.prog 14 [u217] (.tup [.agg [.int .i64 6,.int .i64 2,.int .i64 0,.int .i64 0,.int .i64 0,.bool false,.int .i64 0,.int .i64 0,.int .i64 0,.flt .f64 0,.nsl,u212],.bool true]):= @uK_ (G []) Tryz.prog mox o0 3000 14 _ _ (by kernel_rfl)
theorem x5_: @kv_ (G []) Tryz.prog 16 [.agg [.int .i64 2,.int .i64 1,.int .i64 0,.int .i64 0,.int .i64 0,.bool false,.int .i64 0,.int .i64 0,.int .i64 0,.flt .f64 0,.vsl 1 1 [.str [120]],.vsl 1 3 [.int .i64 2,.int .i64 8,.flt .f64 0]]] (u223):= @uK_ (G []) Tryz.prog mox o0 3000 16 _ _ (by kernel_rfl)
theorem yd_: @kv_ (G []) Tryz.prog 12 [u232,u13] (.tup [u233,.agg [.int .i64 0,.nsl]]):= @uK_ (G []) Tryz.prog mox o0 3000 12 _ _ (by kernel_rfl)
theorem yl_: @kv_ (G []) Tryz.prog 12 [u242,u13] (u245):= @uK_ (G []) Tryz.prog mox o0 3000 12 _ _ (by kernel_rfl)
theorem yt_: @kv_ (G []) Tryz.prog 14 [u253] (.tup [.agg [.int .i64 6,.int .i64 2,.int .i64 0,.int .i64 0,.int .i64 0,.bool false,.int .i64 0,.int .i64 0,.int .i64 0,.flt .f64 0,.nsl,u248],.bool true]):= @uK_ (G []) Tryz.prog mox o0 3000 14 _ _ (by kernel_rfl)
theorem d16: @kv_ (G []) Tryz.prog 16 [.agg [.int .i64 2,.int .i64 1,.int .i64 0,.int .i64 0,.int .i64 0,.bool false,.int .i64 0,.int .i64 0,.int .i64 0,.flt .f64 0,.vsl 1 1 [.str [120]],.vsl 1 3 [.int .i64 2,.int .i64 2,.flt .f64 0]]] (u9):= @uK_ (G []) Tryz.prog mox o0 3000 16 _ _ (by kernel_rfl)
end Go.Proofs.YteegdnoekakdbaaGreatDoor.vars
