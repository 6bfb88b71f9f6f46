/-
  Closed calls.
-/
import Derived.Test.YteegdnoekakdbaaGreatDoorT0
import Derived.Test.YteegdnoekakdbaaGreatDoorFA
set_option maxRecDepth 100000
set_option linter.unusedVariables false
namespace Go.Proofs.YteegdnoekakdbaaGreatDoor.vars
open Go Go.Sx
theorem d29: @kv_ (G []) Tryz.prog 12 [u28,u13] (.tup [u31,.agg [.int .i64 0,.nsl]]):= @uK_ (G []) Tryz.prog mox o0 3000 12 _ _ (by kernel_rfl)
theorem d37: @kv_ (G []) Tryz.prog 12 [u40,u13] (.tup [u42,.agg [.int .i64 0,.nsl]]):= @uK_ (G []) Tryz.prog mox o0 3000 12 _ _ (by kernel_rfl)
theorem k_: @kv_ (G []) Tryz.prog 15 [u1,.str [110]] (.tup [.agg [.str [110],.int .i64 3,.int .i64 2,.int .i64 3],.bool true]):= @uK_ (G []) Tryz.prog mox o0 3000 15 _ _ (by kernel_rfl)
theorem g_: @kv_ (G []) Tryz.prog 14 [u20] (.tup [.agg [.int .i64 6,.int .i64 1,.int .i64 0,.int .i64 0,.int .i64 0,.bool false,.int .i64 0,.int .i64 0,.int .i64 0,.flt .f64 0,.nsl,.nsl],.bool true]):= @uK_ (G []) Tryz.prog mox o0 3000 14 _ _ (by kernel_rfl)
theorem o_: @kv_ (G []) Tryz.prog 14 [u75] (.tup [.agg [.int .i64 6,.int .i64 3,.int .i64 9,.int .i64 0,.int .i64 0,.bool false,.int .i64 0,.int .i64 0,.int .i64 0,.flt .f64 0,.nsl,.nsl],.bool true]):= @uK_ (G []) Tryz.prog mox o0 3000 14 _ _ (by kernel_rfl)
theorem d67: @kv_ (G []) Tryz.prog 12 [u81,u13] (.tup [u83,.agg [.int .i64 0,.nsl]]):= @uK_ (G []) Tryz.prog mox o0 3000 12 _ _ (by kernel_rfl)
theorem d75: @kv_ (G []) Tryz.prog 12 [u91,u13] (.tup [u93,.agg [.int .i64 0,.nsl]]):= @uK_ (G []) Tryz.prog mox o0 3000 12 _ _ (by kernel_rfl)
theorem d83: @kv_ (G []) Tryz.prog 12 [u102,u56] (.tup [u103,.agg [.int .i64 0,.nsl]]):= @uK_ (G []) Tryz.prog mox o0 3000 12 _ _ (by kernel_rfl)
theorem d91: @kv_ (G []) Tryz.prog 12 [u111,u17] (.tup [u112,u74]):= @uK_ (G []) Tryz.prog mox o0 3000 12 _ _ (by kernel_rfl)
theorem d99: @kv_ (G []) Tryz.prog 12 [u117,u13] (.tup [u119,.agg [.int .i64 0,.nsl]]):= @uK_ (G []) Tryz.prog mox o0 3000 12 _ _ (by kernel_rfl)
theorem wI_: @kv_ (G []) Tryz.prog 12 [u127,u13] (.tup [u129,.agg [.int .i64 0,.nsl]]):= @uK_ (G []) Tryz.prog mox o0 3000 12 _ _ (by kernel_rfl)
theorem wQ_: @kv_ (G []) Tryz.prog 12 [u138,u56] (.tup [u139,.agg [.int .i64 0,.nsl]]):= @uK_ (G []) Tryz.prog mox o0 3000 12 _ _ (by kernel_rfl)
theorem wY_: @kv_ (G []) Tryz.prog 12 [u147,u17] (.tup [u148,u74]):= @uK_ (G []) Tryz.prog mox o0 3000 12 _ _ (by kernel_rfl)
theorem w6_: @kv_ (G []) Tryz.prog 12 [u153,u13] (.tup [u155,.agg [.int .i64 0,.nsl]]):= @uK_ (G []) Tryz.prog mox o0 3000 12 _ _ (by kernel_rfl)
theorem xe_: @kv_ (G []) Tryz.prog 12 [u163,u13] (.tup [u165,.agg [.int .i64 0,.nsl]]):= @uK_ (G []) Tryz.prog mox o0 3000 12 _ _ (by kernel_rfl)
theorem xm_: @kv_ (G []) Tryz.prog 12 [u174,u56] (.tup [u175,.agg [.int .i64 0,.nsl]]):= @uK_ (G []) Tryz.prog mox o0 3000 12 _ _ (by kernel_rfl)
theorem xu_: @kv_ (G []) Tryz.prog 12 [u183,u17] (.tup [u184,u74]):= @uK_ (G []) Tryz.prog mox o0 3000 12 _ _ (by kernel_rfl)
theorem xC_: @kv_ (G []) Tryz.prog 12 [u189,u13] (.tup [u191,.agg [.int .i64 0,.nsl]]):= @uK_ (G []) Tryz.prog mox o0 3000 12 _ _ (by kernel_rfl)
theorem xK_: @kv_ (G []) Tryz.prog 12 [u199,u13] (.tup [u201,.agg [.int .i64 0,.nsl]]):= @uK_ (G []) Tryz.prog mox o0 3000 12 _ _ (by kernel_rfl)
theorem xS_: @kv_ (G []) Tryz.prog 12 [u210,u56] (.tup [u211,.agg [.int .i64 0,.nsl]]):= @uK_ (G []) Tryz.prog mox o0 3000 12 _ _ (by kernel_rfl)
theorem x0_: @kv_ (G []) Tryz.prog 12 [u219,u17] (.tup [u220,u74]):= @uK_ (G []) Tryz.prog mox o0 3000 12 _ _ (by kernel_rfl)
theorem x8_: @kv_ (G []) Tryz.prog 12 [u225,u13] (.tup [u227,.agg [.int .i64 0,.nsl]]):= @uK_ (G []) Tryz.prog mox o0 3000 12 _ _ (by kernel_rfl)
theorem yg_: @kv_ (G []) Tryz.prog 12 [u235,u13] (.tup [u237,.agg [.int .i64 0,.nsl]]):= @uK_ (G []) Tryz.prog mox o0 3000 12 _ _ (by kernel_rfl)
theorem yo_: @kv_ (G []) Tryz.prog 12 [u246,u56] (.tup [u247,.agg [.int .i64 0,.nsl]]):= @uK_ (G []) Tryz.prog mox o0 3000 12 _ _ (by kernel_rfl)
theorem yw_: @kv_ (G []) Tryz.prog 12 [u255,u17] (.tup [u256,u74]):= @uK_ (G []) Tryz.prog mox o0 3000 12 _ _ (by kernel_rfl)
theorem d19: @kv_ (G []) Tryz.prog 12 [u12,u13] (.tup [u16,.agg [.int .i64 0,.nsl]]):= @uK_ (G []) Tryz.prog mox o0 3000 12 _ _ (by kernel_rfl)
end Go.Proofs.YteegdnoekakdbaaGreatDoor.vars
