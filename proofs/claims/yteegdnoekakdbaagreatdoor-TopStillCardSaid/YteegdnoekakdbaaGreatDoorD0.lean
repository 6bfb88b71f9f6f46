/-
  Closed calls.
-/
import Derived.Test.YteegdnoekakdbaaGreatDoorT0
import Derived.Test.YteegdnoekakdbaaGreatDoorFA
set_option maxRecDepth 100000
set_option linter.unusedVariables false
namespace Go.Proofs.YteegdnoekakdbaaGreatDoor.vars
open Go Go.Sx
theorem d_: @kv_ (G []) Tryz.prog 12 [u7,.agg [.int .i64 2,.int .i64 0,.int .i64 0,.nsl,.int .i64 0,.int .i64 0,.flt .f64 0]] (.tup [u8,.agg [.int .i64 0,.nsl]]):= @uK_ (G []) Tryz.prog mox o0 3000 12 _ _ (by kernel_rfl)
theorem d30: @kv_ (G []) Tryz.prog 12 [u31,u13] (.tup [u32,.agg [.int .i64 0,.nsl]]):= @uK_ (G []) Tryz.prog mox o0 3000 12 _ _ (by kernel_rfl)
theorem d38: @kv_ (G []) Tryz.prog 12 [u42,u13] (.tup [u43,.agg [.int .i64 0,.nsl]]):= @uK_ (G []) Tryz.prog mox o0 3000 12 _ _ (by kernel_rfl)
theorem l_: @kv_ (G []) Tryz.prog 16 [.agg [.int .i64 1,.int .i64 2,.int .i64 0,.int .i64 0,.int .i64 0,.bool false,.int .i64 0,.int .i64 0,.int .i64 0,.flt .f64 0,.vsl 3 1 [.str [111],.str [110],.str [120]],.nsl]] (u51):= @uK_ (G []) Tryz.prog mox o0 3000 16 _ _ (by kernel_rfl)
theorem d52: @kv_ (G []) Tryz.prog 12 [u62,u17] (.tup [u64,.agg [.int .i64 0,u65]]):= @uK_ (G []) Tryz.prog mox o0 3000 12 _ _ (by kernel_rfl)
theorem d60: @kv_ (G []) Tryz.prog 12 [u72,u17] (u78):= @uK_ (G []) Tryz.prog mox o0 3000 12 _ _ (by kernel_rfl)
theorem d68: @kv_ (G []) Tryz.prog 12 [u83,u13] (.tup [u84,.agg [.int .i64 0,.nsl]]):= @uK_ (G []) Tryz.prog mox o0 3000 12 _ _ (by kernel_rfl)
theorem d76: @kv_ (G []) Tryz.prog 12 [u93,u13] (.tup [u94,.agg [.int .i64 0,.nsl]]):= @uK_ (G []) Tryz.prog mox o0 3000 12 _ _ (by kernel_rfl)
theorem d84: @kv_ (G []) Tryz.prog 12 [u103,u11] (.tup [u105,.agg [.int .i64 0,.nsl]]):= @uK_ (G []) Tryz.prog mox o0 3000 12 _ _ (by kernel_rfl)
theorem d92: @kv_ (G []) Tryz.prog 12 [u112,u17] (u114):= @uK_ (G []) Tryz.prog mox o0 3000 12 _ _ (by kernel_rfl)
theorem wB_: @kv_ (G []) Tryz.prog 12 [u119,u13] (.tup [u120,.agg [.int .i64 0,.nsl]]):= @uK_ (G []) Tryz.prog mox o0 3000 12 _ _ (by kernel_rfl)
theorem wJ_: @kv_ (G []) Tryz.prog 12 [u129,u13] (.tup [u130,.agg [.int .i64 0,.nsl]]):= @uK_ (G []) Tryz.prog mox o0 3000 12 _ _ (by kernel_rfl)
theorem wR_: @kv_ (G []) Tryz.prog 12 [u139,u11] (.tup [u141,.agg [.int .i64 0,.nsl]]):= @uK_ (G []) Tryz.prog mox o0 3000 12 _ _ (by kernel_rfl)
theorem wZ_: @kv_ (G []) Tryz.prog 12 [u148,u17] (u150):= @uK_ (G []) Tryz.prog mox o0 3000 12 _ _ (by kernel_rfl)
theorem w7_: @kv_ (G []) Tryz.prog 12 [u155,u13] (.tup [u156,.agg [.int .i64 0,.nsl]]):= @uK_ (G []) Tryz.prog mox o0 3000 12 _ _ (by kernel_rfl)
theorem xf_: @kv_ (G []) Tryz.prog 12 [u165,u13] (.tup [u166,.agg [.int .i64 0,.nsl]]):= @uK_ (G []) Tryz.prog mox o0 3000 12 _ _ (by kernel_rfl)
theorem xn_: @kv_ (G []) Tryz.prog 12 [u175,u11] (.tup [u177,.agg [.int .i64 0,.nsl]]):= @uK_ (G []) Tryz.prog mox o0 3000 12 _ _ (by kernel_rfl)
theorem xv_: @kv_ (G []) Tryz.prog 12 [u184,u17] (u186):= @uK_ (G []) Tryz.prog mox o0 3000 12 _ _ (by kernel_rfl)
theorem xD_: @kv_ (G []) Tryz.prog 12 [u191,u13] (.tup [u192,.agg [.int .i64 0,.nsl]]):= @uK_ (G []) Tryz.prog mox o0 3000 12 _ _ (by kernel_rfl)
theorem xL_: @kv_ (G []) Tryz.prog 12 [u201,u13] (.tup [u202,.agg [.int .i64 0,.nsl]]):= @uK_ (G []) Tryz.prog mox o0 3000 12 _ _ (by kernel_rfl)
theorem xT_: @kv_ (G []) Tryz.prog 12 [u211,u11] (.tup [u213,.agg [.int .i64 0,.nsl]]):= @uK_ (G []) Tryz.prog mox o0 3000 12 _ _ (by kernel_rfl)
theorem x1_: @kv_ (G []) Tryz.prog 12 [u220,u17] (u222):= @uK_ (G []) Tryz.prog mox o0 3000 12 _ _ (by kernel_rfl)
theorem x9_: @kv_ (G []) Tryz.prog 12 [u227,u13] (.tup [u228,.agg [.int .i64 0,.nsl]]):= @uK_ (G []) Tryz.prog mox o0 3000 12 _ _ (by kernel_rfl)
theorem yh_: @kv_ (G []) Tryz.prog 12 [u237,u13] (.tup [u238,.agg [.int .i64 0,.nsl]]):= @uK_ (G []) Tryz.prog mox o0 3000 12 _ _ (by kernel_rfl)
theorem yp_: @kv_ (G []) Tryz.prog 12 [u247,u11] (.tup [u249,.agg [.int .i64 0,.nsl]]):= @uK_ (G []) Tryz.prog mox o0 3000 12 _ _ (by kernel_rfl)
theorem yx_: @kv_ (G []) Tryz.prog 12 [u256,u17] (u258):= @uK_ (G []) Tryz.prog mox o0 3000 12 _ _ (by kernel_rfl)
theorem d20: @kv_ (G []) Tryz.prog 12 [u16,u17] (.tup [.agg [u1,u3,u1,u5,.int .i64 100,u14,.int .i64 0,.nsl,u14,.int .i64 0,.int .i64 0,.bool false,.int .i64 0,.int .i64 0,.int .i64 0,.int .i64 0,.vsl 4 8 [.bool true,.int .i64 0,.vsl 0 1 [],.bool false,.nsl,.vsl 0 12 [],.nsl,.int .i64 0,.bool false,.int .i64 0,.nsl,.bool false,.nsl,.nsl,.nsl,.int .i64 0,.bool false,.int .i64 0,.nsl,.bool false,.nsl,.nsl,.nsl,.int .i64 0,.bool false,.int .i64 0,.nsl,.bool false,.nsl,.nsl,.nsl,.int .i64 0],.nsl,u6],u19]):= @uK_ (G []) Tryz.prog mox o0 3000 12 _ _ (by kernel_rfl)
end Go.Proofs.YteegdnoekakdbaaGreatDoor.vars
