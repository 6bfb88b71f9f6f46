/-
  Closed calls.
-/
import Derived.Test.YteegdnoekakdbaaGreatDoorT0
import Derived.Test.YteegdnoekakdbaaGreatDoorFA
set_option maxRecDepth 100000
set_option linter.unusedVariables false
namespace Go.Proofs.YteegdnoekakdbaaGreatDoor.vars
open Go Go.Sx
theorem d27: @kv_ (G []) Tryz.prog 12 [u24,.agg [.int .i64 3,.int .i64 0,.int .i64 0,u25,.int .i64 0,.int .i64 0,.flt .f64 0]] (.tup [u26,.agg [.int .i64 0,.nsl]]):= @uK_ (G []) Tryz.prog mox o0 3000 12 _ _ (by kernel_rfl)
theorem d35: @kv_ (G []) Tryz.prog 12 [u38,u13] (.tup [u39,.agg [.int .i64 0,.nsl]]):= @uK_ (G []) Tryz.prog mox o0 3000 12 _ _ (by kernel_rfl)
theorem d43: @kv_ (G []) Tryz.prog 12 [u49,u13] (u50):= @uK_ (G []) Tryz.prog mox o0 3000 12 _ _ (by kernel_rfl)
theorem d51: @kv_ (G []) Tryz.prog 12 [u61,u17] (.tup [u62,u19]):= @uK_ (G []) Tryz.prog mox o0 3000 12 _ _ (by kernel_rfl)
theorem d57: @kv_ (G []) Tryz.prog 12 [u70,u17] (.tup [u72,u74]):= @uK_ (G []) Tryz.prog mox o0 3000 12 _ _ (by kernel_rfl)
theorem d65: @kv_ (G []) Tryz.prog 12 [u24,.agg [.int .i64 3,.int .i64 0,.int .i64 0,u79,.int .i64 0,.int .i64 0,.flt .f64 0]] (.tup [u80,.agg [.int .i64 0,.nsl]]):= @uK_ (G []) Tryz.prog mox o0 3000 12 _ _ (by kernel_rfl)
theorem d73: @kv_ (G []) Tryz.prog 12 [u89,u13] (.tup [u90,.agg [.int .i64 0,.nsl]]):= @uK_ (G []) Tryz.prog mox o0 3000 12 _ _ (by kernel_rfl)
theorem d81: @kv_ (G []) Tryz.prog 12 [u100,u13] (u101):= @uK_ (G []) Tryz.prog mox o0 3000 12 _ _ (by kernel_rfl)
theorem d89: @kv_ (G []) Tryz.prog 12 [u107,u13] (.tup [u110,.agg [.int .i64 0,.nsl]]):= @uK_ (G []) Tryz.prog mox o0 3000 12 _ _ (by kernel_rfl)
theorem d97: @kv_ (G []) Tryz.prog 12 [u24,.agg [.int .i64 3,.int .i64 0,.int .i64 0,u115,.int .i64 0,.int .i64 0,.flt .f64 0]] (.tup [u116,.agg [.int .i64 0,.nsl]]):= @uK_ (G []) Tryz.prog mox o0 3000 12 _ _ (by kernel_rfl)
theorem wG_: @kv_ (G []) Tryz.prog 12 [u125,u13] (.tup [u126,.agg [.int .i64 0,.nsl]]):= @uK_ (G []) Tryz.prog mox o0 3000 12 _ _ (by kernel_rfl)
theorem wO_: @kv_ (G []) Tryz.prog 12 [u136,u13] (u137):= @uK_ (G []) Tryz.prog mox o0 3000 12 _ _ (by kernel_rfl)
theorem wW_: @kv_ (G []) Tryz.prog 12 [u143,u13] (.tup [u146,.agg [.int .i64 0,.nsl]]):= @uK_ (G []) Tryz.prog mox o0 3000 12 _ _ (by kernel_rfl)
theorem w4_: @kv_ (G []) Tryz.prog 12 [u24,.agg [.int .i64 3,.int .i64 0,.int .i64 0,u151,.int .i64 0,.int .i64 0,.flt .f64 0]] (.tup [u152,.agg [.int .i64 0,.nsl]]):= @uK_ (G []) Tryz.prog mox o0 3000 12 _ _ (by kernel_rfl)
theorem xc_: @kv_ (G []) Tryz.prog 12 [u161,u13] (.tup [u162,.agg [.int .i64 0,.nsl]]):= @uK_ (G []) Tryz.prog mox o0 3000 12 _ _ (by kernel_rfl)
theorem xk_: @kv_ (G []) Tryz.prog 12 [u172,u13] (u173):= @uK_ (G []) Tryz.prog mox o0 3000 12 _ _ (by kernel_rfl)
theorem xs_: @kv_ (G []) Tryz.prog 12 [u179,u13] (.tup [u182,.agg [.int .i64 0,.nsl]]):= @uK_ (G []) Tryz.prog mox o0 3000 12 _ _ (by kernel_rfl)
theorem xA_: @kv_ (G []) Tryz.prog 12 [u24,.agg [.int .i64 3,.int .i64 0,.int .i64 0,u187,.int .i64 0,.int .i64 0,.flt .f64 0]] (.tup [u188,.agg [.int .i64 0,.nsl]]):= @uK_ (G []) Tryz.prog mox o0 3000 12 _ _ (by kernel_rfl)
theorem xI_: @kv_ (G []) Tryz.prog 12 [u197,u13] (.tup [u198,.agg [.int .i64 0,.nsl]]):= @uK_ (G []) Tryz.prog mox o0 3000 12 _ _ (by kernel_rfl)
theorem xQ_: @kv_ (G []) Tryz.prog 12 [u208,u13] (u209):= @uK_ (G []) Tryz.prog mox o0 3000 12 _ _ (by kernel_rfl)
theorem xY_: @kv_ (G []) Tryz.prog 12 [u215,u13] (.tup [u218,.agg [.int .i64 0,.nsl]]):= @uK_ (G []) Tryz.prog mox o0 3000 12 _ _ (by kernel_rfl)
theorem x6_: @kv_ (G []) Tryz.prog 12 [u24,.agg [.int .i64 3,.int .i64 0,.int .i64 0,u223,.int .i64 0,.int .i64 0,.flt .f64 0]] (.tup [u224,.agg [.int .i64 0,.nsl]]):= @uK_ (G []) Tryz.prog mox o0 3000 12 _ _ (by kernel_rfl)
theorem ye_: @kv_ (G []) Tryz.prog 12 [u233,u13] (.tup [u234,.agg [.int .i64 0,.nsl]]):= @uK_ (G []) Tryz.prog mox o0 3000 12 _ _ (by kernel_rfl)
theorem ym_: @kv_ (G []) Tryz.prog 12 [u244,u13] (u245):= @uK_ (G []) Tryz.prog mox o0 3000 12 _ _ (by kernel_rfl)
theorem yu_: @kv_ (G []) Tryz.prog 12 [u251,u13] (.tup [u254,.agg [.int .i64 0,.nsl]]):= @uK_ (G []) Tryz.prog mox o0 3000 12 _ _ (by kernel_rfl)
theorem d17: @kv_ (G []) Tryz.prog 12 [u8,.agg [.int .i64 3,.int .i64 0,.int .i64 0,u9,.int .i64 0,.int .i64 0,.flt .f64 0]] (.tup [u10,.agg [.int .i64 0,.nsl]]):= @uK_ (G []) Tryz.prog mox o0 3000 12 _ _ (by kernel_rfl)
end Go.Proofs.YteegdnoekakdbaaGreatDoor.vars
