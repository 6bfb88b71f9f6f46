/-
  Closed calls.
-/
import Derived.Test.YteegdnoekakdbaaGreatDoorT0
import Derived.Test.YteegdnoekakdbaaGreatDoorFA
set_option maxRecDepth 100000
set_option linter.unusedVariables false
namespace Go.Proofs.YteegdnoekakdbaaGreatDoor.vars
open Go Go.Sx
theorem e_: @kv_ (G []) Tryz.prog 15 [u1,.str [120]] (.tup [.agg [.str [120],.int .i64 4,.int .i64 2,.int .i64 3],.bool true]):= @uK_ (G []) Tryz.prog mox o0 3000 15 _ _ (by kernel_rfl)
theorem d33: @kv_ (G []) Tryz.prog 12 [u35,u13] (.tup [u37,.agg [.int .i64 0,.nsl]]):= @uK_ (G []) Tryz.prog mox o0 3000 12 _ _ (by kernel_rfl)
theorem d41: @kv_ (G []) Tryz.prog 12 [u45,u13] (.tup [u47,.agg [.int .i64 0,.nsl]]):= @uK_ (G []) Tryz.prog mox o0 3000 12 _ _ (by kernel_rfl)
theorem d49: @kv_ (G []) Tryz.prog 12 [u54,u56] (.tup [u58,.agg [.int .i64 0,.nsl]]):= @uK_ (G []) Tryz.prog mox o0 3000 12 _ _ (by kernel_rfl)
theorem d55: @kv_ (G []) Tryz.prog 12 [u64,u13] (.tup [u68,.agg [.int .i64 0,.nsl]]):= @uK_ (G []) Tryz.prog mox o0 3000 12 _ _ (by kernel_rfl)
theorem d63: @kv_ (G []) Tryz.prog 12 [u77,u17] (u78):= @uK_ (G []) Tryz.prog mox o0 3000 12 _ _ (by kernel_rfl)
theorem d71: @kv_ (G []) Tryz.prog 12 [u86,u13] (.tup [u88,.agg [.int .i64 0,.nsl]]):= @uK_ (G []) Tryz.prog mox o0 3000 12 _ _ (by kernel_rfl)
theorem d79: @kv_ (G []) Tryz.prog 12 [u96,u13] (.tup [u98,.agg [.int .i64 0,.nsl]]):= @uK_ (G []) Tryz.prog mox o0 3000 12 _ _ (by kernel_rfl)
theorem d87: @kv_ (G []) Tryz.prog 13 [u108] (.tup [u109,.int .i64 35,.int .i64 0]):= @uK_ (G []) Tryz.prog mox o0 3000 13 _ _ (by kernel_rfl)
theorem d95: @kv_ (G []) Tryz.prog 12 [u113,u17] (u114):= @uK_ (G []) Tryz.prog mox o0 3000 12 _ _ (by kernel_rfl)
theorem wE_: @kv_ (G []) Tryz.prog 12 [u122,u13] (.tup [u124,.agg [.int .i64 0,.nsl]]):= @uK_ (G []) Tryz.prog mox o0 3000 12 _ _ (by kernel_rfl)
theorem wM_: @kv_ (G []) Tryz.prog 12 [u132,u13] (.tup [u134,.agg [.int .i64 0,.nsl]]):= @uK_ (G []) Tryz.prog mox o0 3000 12 _ _ (by kernel_rfl)
theorem wU_: @kv_ (G []) Tryz.prog 13 [u144] (.tup [u145,.int .i64 35,.int .i64 0]):= @uK_ (G []) Tryz.prog mox o0 3000 13 _ _ (by kernel_rfl)
theorem w2_: @kv_ (G []) Tryz.prog 12 [u149,u17] (u150):= @uK_ (G []) Tryz.prog mox o0 3000 12 _ _ (by kernel_rfl)
theorem xa_: @kv_ (G []) Tryz.prog 12 [u158,u13] (.tup [u160,.agg [.int .i64 0,.nsl]]):= @uK_ (G []) Tryz.prog mox o0 3000 12 _ _ (by kernel_rfl)
theorem xi_: @kv_ (G []) Tryz.prog 12 [u168,u13] (.tup [u170,.agg [.int .i64 0,.nsl]]):= @uK_ (G []) Tryz.prog mox o0 3000 12 _ _ (by kernel_rfl)
theorem xq_: @kv_ (G []) Tryz.prog 13 [u180] (.tup [u181,.int .i64 35,.int .i64 0]):= @uK_ (G []) Tryz.prog mox o0 3000 13 _ _ (by kernel_rfl)
theorem xy_: @kv_ (G []) Tryz.prog 12 [u185,u17] (u186):= @uK_ (G []) Tryz.prog mox o0 3000 12 _ _ (by kernel_rfl)
theorem xG_: @kv_ (G []) Tryz.prog 12 [u194,u13] (.tup [u196,.agg [.int .i64 0,.nsl]]):= @uK_ (G []) Tryz.prog mox o0 3000 12 _ _ (by kernel_rfl)
theorem xO_: @kv_ (G []) Tryz.prog 12 [u204,u13] (.tup [u206,.agg [.int .i64 0,.nsl]]):= @uK_ (G []) Tryz.prog mox o0 3000 12 _ _ (by kernel_rfl)
theorem xW_: @kv_ (G []) Tryz.prog 13 [u216] (.tup [u217,.int .i64 35,.int .i64 0]):= @uK_ (G []) Tryz.prog mox o0 3000 13 _ _ (by kernel_rfl)
theorem x4_: @kv_ (G []) Tryz.prog 12 [u221,u17] (u222):= @uK_ (G []) Tryz.prog mox o0 3000 12 _ _ (by kernel_rfl)
theorem yc_: @kv_ (G []) Tryz.prog 12 [u230,u13] (.tup [u232,.agg [.int .i64 0,.nsl]]):= @uK_ (G []) Tryz.prog mox o0 3000 12 _ _ (by kernel_rfl)
theorem yk_: @kv_ (G []) Tryz.prog 12 [u240,u13] (.tup [u242,.agg [.int .i64 0,.nsl]]):= @uK_ (G []) Tryz.prog mox o0 3000 12 _ _ (by kernel_rfl)
theorem ys_: @kv_ (G []) Tryz.prog 13 [u252] (.tup [u253,.int .i64 35,.int .i64 0]):= @uK_ (G []) Tryz.prog mox o0 3000 13 _ _ (by kernel_rfl)
theorem yA_: @kv_ (G []) Tryz.prog 12 [u257,u17] (u258):= @uK_ (G []) Tryz.prog mox o0 3000 12 _ _ (by kernel_rfl)
end Go.Proofs.YteegdnoekakdbaaGreatDoor.vars
