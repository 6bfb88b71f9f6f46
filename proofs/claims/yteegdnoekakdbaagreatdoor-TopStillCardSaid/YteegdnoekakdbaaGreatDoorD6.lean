/-
  Closed calls.
-/
import Derived.Test.YteegdnoekakdbaaGreatDoorT0
import Derived.Test.YteegdnoekakdbaaGreatDoorFA
set_option maxRecDepth 100000
set_option linter.unusedVariables false
namespace Go.Proofs.YteegdnoekakdbaaGreatDoor.vars
open Go Go.Sx
theorem d28: @kv_ (G []) Tryz.prog 12 [u26,u11] (.tup [u28,.agg [.int .i64 0,.nsl]]):= @uK_ (G []) Tryz.prog mox o0 3000 12 _ _ (by kernel_rfl)
theorem d36: @kv_ (G []) Tryz.prog 12 [u39,u13] (.tup [u40,.agg [.int .i64 0,.nsl]]):= @uK_ (G []) Tryz.prog mox o0 3000 12 _ _ (by kernel_rfl)
theorem j_: @kv_ (G []) Tryz.prog 15 [u1,.str [111]] (.tup [.agg [.str [111],.int .i64 2,.int .i64 2,.int .i64 2],.bool true]):= @uK_ (G []) Tryz.prog mox o0 3000 15 _ _ (by kernel_rfl)
theorem f_: @kv_ (G []) Tryz.prog 13 [u18] (.tup [u20,.int .i64 26,.int .i64 0]):= @uK_ (G []) Tryz.prog mox o0 3000 13 _ _ (by kernel_rfl)
theorem n_: @kv_ (G []) Tryz.prog 13 [u73] (.tup [u75,.int .i64 26,.int .i64 0]):= @uK_ (G []) Tryz.prog mox o0 3000 13 _ _ (by kernel_rfl)
theorem d66: @kv_ (G []) Tryz.prog 12 [u80,u11] (.tup [u81,.agg [.int .i64 0,.nsl]]):= @uK_ (G []) Tryz.prog mox o0 3000 12 _ _ (by kernel_rfl)
theorem d74: @kv_ (G []) Tryz.prog 12 [u90,u13] (.tup [u91,.agg [.int .i64 0,.nsl]]):= @uK_ (G []) Tryz.prog mox o0 3000 12 _ _ (by kernel_rfl)
theorem d82: @kv_ (G []) Tryz.prog 12 [u100,u52] (.tup [u102,.agg [.int .i64 0,.nsl]]):= @uK_ (G []) Tryz.prog mox o0 3000 12 _ _ (by kernel_rfl)
theorem d90: @kv_ (G []) Tryz.prog 12 [u110,u11] (.tup [u111,.agg [.int .i64 0,.nsl]]):= @uK_ (G []) Tryz.prog mox o0 3000 12 _ _ (by kernel_rfl)
theorem d98: @kv_ (G []) Tryz.prog 12 [u116,u11] (.tup [u117,.agg [.int .i64 0,.nsl]]):= @uK_ (G []) Tryz.prog mox o0 3000 12 _ _ (by kernel_rfl)
theorem wH_: @kv_ (G []) Tryz.prog 12 [u126,u13] (.tup [u127,.agg [.int .i64 0,.nsl]]):= @uK_ (G []) Tryz.prog mox o0 3000 12 _ _ (by kernel_rfl)
theorem wP_: @kv_ (G []) Tryz.prog 12 [u136,u52] (.tup [u138,.agg [.int .i64 0,.nsl]]):= @uK_ (G []) Tryz.prog mox o0 3000 12 _ _ (by kernel_rfl)
theorem wX_: @kv_ (G []) Tryz.prog 12 [u146,u11] (.tup [u147,.agg [.int .i64 0,.nsl]]):= @uK_ (G []) Tryz.prog mox o0 3000 12 _ _ (by kernel_rfl)
theorem w5_: @kv_ (G []) Tryz.prog 12 [u152,u11] (.tup [u153,.agg [.int .i64 0,.nsl]]):= @uK_ (G []) Tryz.prog mox o0 3000 12 _ _ (by kernel_rfl)
theorem xd_: @kv_ (G []) Tryz.prog 12 [u162,u13] (.tup [u163,.agg [.int .i64 0,.nsl]]):= @uK_ (G []) Tryz.prog mox o0 3000 12 _ _ (by kernel_rfl)
theorem xl_: @kv_ (G []) Tryz.prog 12 [u172,u52] (.tup [u174,.agg [.int .i64 0,.nsl]]):= @uK_ (G []) Tryz.prog mox o0 3000 12 _ _ (by kernel_rfl)
theorem xt_: @kv_ (G []) Tryz.prog 12 [u182,u11] (.tup [u183,.agg [.int .i64 0,.nsl]]):= @uK_ (G []) Tryz.prog mox o0 3000 12 _ _ (by kernel_rfl)
theorem xB_: @kv_ (G []) Tryz.prog 12 [u188,u11] (.tup [u189,.agg [.int .i64 0,.nsl]]):= @uK_ (G []) Tryz.prog mox o0 3000 12 _ _ (by kernel_rfl)
theorem xJ_: @kv_ (G []) Tryz.prog 12 [u198,u13] (.tup [u199,.agg [.int .i64 0,.nsl]]):= @uK_ (G []) Tryz.prog mox o0 3000 12 _ _ (by kernel_rfl)
theorem xR_: @kv_ (G []) Tryz.prog 12 [u208,u52] (.tup [u210,.agg [.int .i64 0,.nsl]]):= @uK_ (G []) Tryz.prog mox o0 3000 12 _ _ (by kernel_rfl)
theorem xZ_: @kv_ (G []) Tryz.prog 12 [u218,u11] (.tup [u219,.agg [.int .i64 0,.nsl]]):= @uK_ (G []) Tryz.prog mox o0 3000 12 _ _ (by kernel_rfl)
theorem x7_: @kv_ (G []) Tryz.prog 12 [u224,u11] (.tup [u225,.agg [.int .i64 0,.nsl]]):= @uK_ (G []) Tryz.prog mox o0 3000 12 _ _ (by kernel_rfl)
theorem yf_: @kv_ (G []) Tryz.prog 12 [u234,u13] (.tup [u235,.agg [.int .i64 0,.nsl]]):= @uK_ (G []) Tryz.prog mox o0 3000 12 _ _ (by kernel_rfl)
theorem yn_: @kv_ (G []) Tryz.prog 12 [u244,u52] (.tup [u246,.agg [.int .i64 0,.nsl]]):= @uK_ (G []) Tryz.prog mox o0 3000 12 _ _ (by kernel_rfl)
theorem yv_: @kv_ (G []) Tryz.prog 12 [u254,u11] (.tup [u255,.agg [.int .i64 0,.nsl]]):= @uK_ (G []) Tryz.prog mox o0 3000 12 _ _ (by kernel_rfl)
theorem d18: @kv_ (G []) Tryz.prog 12 [u10,u11] (.tup [u12,.agg [.int .i64 0,.nsl]]):= @uK_ (G []) Tryz.prog mox o0 3000 12 _ _ (by kernel_rfl)
end Go.Proofs.YteegdnoekakdbaaGreatDoor.vars
