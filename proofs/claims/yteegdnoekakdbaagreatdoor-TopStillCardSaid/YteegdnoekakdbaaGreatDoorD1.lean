/-
  Closed calls.
-/
import Derived.Test.YteegdnoekakdbaaGreatDoorT0
import Derived.Test.YteegdnoekakdbaaGreatDoorFA
set_option maxRecDepth 100000
set_option linter.unusedVariables false
namespace Go.Proofs.YteegdnoekakdbaaGreatDoor.vars
open Go Go.Sx
theorem h_: @kv_ (G []) Tryz.prog 12 [u8,.agg [.int .i64 2,.int .i64 1,.int .i64 0,.nsl,.int .i64 0,.int .i64 0,.flt .f64 0]] (.tup [u22,.agg [.int .i64 0,.nsl]]):= @uK_ (G []) Tryz.prog mox o0 3000 12 _ _ (by kernel_rfl)
theorem d31: @kv_ (G []) Tryz.prog 12 [u32,u13] (.tup [u34,.agg [.int .i64 0,.nsl]]):= @uK_ (G []) Tryz.prog mox o0 3000 12 _ _ (by kernel_rfl)
theorem d39: @kv_ (G []) Tryz.prog 12 [u43,u13] (.tup [u44,.agg [.int .i64 0,.nsl]]):= @uK_ (G []) Tryz.prog mox o0 3000 12 _ _ (by kernel_rfl)
theorem d47: @kv_ (G []) Tryz.prog 12 [u49,u52] (.tup [u54,.agg [.int .i64 0,.nsl]]):= @uK_ (G []) Tryz.prog mox o0 3000 12 _ _ (by kernel_rfl)
theorem d53: @kv_ (G []) Tryz.prog 13 [u65] (.tup [u66,.int .i64 35,.int .i64 0]):= @uK_ (G []) Tryz.prog mox o0 3000 13 _ _ (by kernel_rfl)
theorem d61: @kv_ (G []) Tryz.prog 12 [u77,u13] (u78):= @uK_ (G []) Tryz.prog mox o0 3000 12 _ _ (by kernel_rfl)
theorem d69: @kv_ (G []) Tryz.prog 12 [u84,u13] (.tup [u85,.agg [.int .i64 0,.nsl]]):= @uK_ (G []) Tryz.prog mox o0 3000 12 _ _ (by kernel_rfl)
theorem d77: @kv_ (G []) Tryz.prog 12 [u94,u13] (.tup [u95,.agg [.int .i64 0,.nsl]]):= @uK_ (G []) Tryz.prog mox o0 3000 12 _ _ (by kernel_rfl)
theorem d85: @kv_ (G []) Tryz.prog 12 [u105,u17] (.tup [u106,u19]):= @uK_ (G []) Tryz.prog mox o0 3000 12 _ _ (by kernel_rfl)
theorem d93: @kv_ (G []) Tryz.prog 12 [u113,u13] (u114):= @uK_ (G []) Tryz.prog mox o0 3000 12 _ _ (by kernel_rfl)
theorem wC_: @kv_ (G []) Tryz.prog 12 [u120,u13] (.tup [u121,.agg [.int .i64 0,.nsl]]):= @uK_ (G []) Tryz.prog mox o0 3000 12 _ _ (by kernel_rfl)
theorem wK_: @kv_ (G []) Tryz.prog 12 [u130,u13] (.tup [u131,.agg [.int .i64 0,.nsl]]):= @uK_ (G []) Tryz.prog mox o0 3000 12 _ _ (by kernel_rfl)
theorem wS_: @kv_ (G []) Tryz.prog 12 [u141,u17] (.tup [u142,u19]):= @uK_ (G []) Tryz.prog mox o0 3000 12 _ _ (by kernel_rfl)
theorem w0_: @kv_ (G []) Tryz.prog 12 [u149,u13] (u150):= @uK_ (G []) Tryz.prog mox o0 3000 12 _ _ (by kernel_rfl)
theorem w8_: @kv_ (G []) Tryz.prog 12 [u156,u13] (.tup [u157,.agg [.int .i64 0,.nsl]]):= @uK_ (G []) Tryz.prog mox o0 3000 12 _ _ (by kernel_rfl)
theorem xg_: @kv_ (G []) Tryz.prog 12 [u166,u13] (.tup [u167,.agg [.int .i64 0,.nsl]]):= @uK_ (G []) Tryz.prog mox o0 3000 12 _ _ (by kernel_rfl)
theorem xo_: @kv_ (G []) Tryz.prog 12 [u177,u17] (.tup [u178,u19]):= @uK_ (G []) Tryz.prog mox o0 3000 12 _ _ (by kernel_rfl)
theorem xw_: @kv_ (G []) Tryz.prog 12 [u185,u13] (u186):= @uK_ (G []) Tryz.prog mox o0 3000 12 _ _ (by kernel_rfl)
theorem xE_: @kv_ (G []) Tryz.prog 12 [u192,u13] (.tup [u193,.agg [.int .i64 0,.nsl]]):= @uK_ (G []) Tryz.prog mox o0 3000 12 _ _ (by kernel_rfl)
theorem xM_: @kv_ (G []) Tryz.prog 12 [u202,u13] (.tup [u203,.agg [.int .i64 0,.nsl]]):= @uK_ (G []) Tryz.prog mox o0 3000 12 _ _ (by kernel_rfl)
theorem xU_: @kv_ (G []) Tryz.prog 12 [u213,u17] (.tup [u214,u19]):= @uK_ (G []) Tryz.prog mox o0 3000 12 _ _ (by kernel_rfl)
theorem x2_: @kv_ (G []) Tryz.prog 12 [u221,u13] (u222):= @uK_ (G []) Tryz.prog mox o0 3000 12 _ _ (by kernel_rfl)
theorem ya_: @kv_ (G []) Tryz.prog 12 [u228,u13] (.tup [u229,.agg [.int .i64 0,.nsl]]):= @uK_ (G []) Tryz.prog mox o0 3000 12 _ _ (by kernel_rfl)
theorem yi_: @kv_ (G []) Tryz.prog 12 [u238,u13] (.tup [u239,.agg [.int .i64 0,.nsl]]):= @uK_ (G []) Tryz.prog mox o0 3000 12 _ _ (by kernel_rfl)
theorem yq_: @kv_ (G []) Tryz.prog 12 [u249,u17] (.tup [u250,u19]):= @uK_ (G []) Tryz.prog mox o0 3000 12 _ _ (by kernel_rfl)
theorem yy_: @kv_ (G []) Tryz.prog 12 [u257,u13] (u258):= @uK_ (G []) Tryz.prog mox o0 3000 12 _ _ (by kernel_rfl)
end Go.Proofs.YteegdnoekakdbaaGreatDoor.vars
