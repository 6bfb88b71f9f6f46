/-
  Strings as values: pieces, joined, held against; whole numbers as floats.
-/
import Derived.Test.YtjconanknjgpnaaGreatSyT
set_option linter.unusedVariables false
set_option linter.unusedSimpArgs false
namespace Go.Sx
section
variable {P:Program} {t:TypeId}
theorem sx_ (a b:List UInt8):eqB a b=decide (a=b):=by
 by_cases h:a=b
 .subst h;rw [decide_eq_true rfl];exact by rw [d5_];exact beq_self_eq_true a
 .rw [decide_eq_false h]
  cases hb:eqB a b with
  |false=>rfl
  |true=>exact absurd (by rw [d5_]at hb;exact eq_of_beq hb) h
theorem vr_ (cx cy:Bool) (a b:List UInt8):(XOp.bin .neq t cx cy).run P [.str a,.str b]=some (.bool (!decide (a=b))):=by
 show some (AV.bool (not (eqB a b)))=_
 rw [sx_]
theorem tH_ {s d:TypeId} {ds:TypeDesc} {k j:IntKind} (hs:P.underlying s=some ds) (hd:P.underlying d=some (.int k)) (n:Int):(XOp.conv s d).run P [.int j n]=some (.int k (k.wrap n)):=by
 show b7_ P h0 s d (.int j n)=_
 unfold b7_ fa_
 simp only [hs,hd,dj_,cG_]
end
end Go.Sx
