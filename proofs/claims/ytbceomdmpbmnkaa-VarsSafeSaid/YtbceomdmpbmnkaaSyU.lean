/-
  Strings as values: pieces, joined, held against; whole numbers as floats.
-/
import Derived.Test.YtbceomdmpbmnkaaSyR
set_option linter.unusedVariables false
set_option linter.unusedSimpArgs false
namespace Go.Sx
section
variable {P : Program} {t : TypeId}
theorem run_conv_ii {s d : TypeId} {ds : TypeDesc} {k j : IntKind} (hs : P.underlying s = some ds) (hd : P.underlying d = some (.int k)) (n : Int) : (XOp.conv s d).run P [.int j n] = some (.int k (k.wrap n)) := by
 show evConv P h0 s d (.int j n) = _
 unfold evConv evConvI
 simp only [hs, hd, mkI_eq, wrapF_eq]
end
end Go.Sx
