/-
  A call whose operations on symbols are all known; what it does to a world.
-/
import Derived.Test.YtjconanknjgpnaaGreatSyE
set_option linter.unusedVariables false
set_option linter.unusedSimpArgs false
namespace Go.Sx
variable [Gl]
omit [Gl]in
theorem s1_ {P:Program} {k:IntKind} {x c r:Int} (hc:c≠0) (hr:x.tmod c=r) (t:TypeId) (cx cy:Bool):bJ_ P .rem t cx cy (.int k x) (.int k c)=some (.int k r):=by
 subst hr
 show cU_ P .rem k x k c=_
 have hb:Nat.beq (kix k) (kix k)=true:=Nat.beq_refl _
 unfold cU_
 rw [hb]
 show (match (none:Option AV)with|some r=>some r|none=>eD_ P .rem k x k c)=_
 simp only
 unfold eD_
 simp only [binOp,Op.intDiv,hc,ne_eq,not_true_eq_false,if_false]
 rfl
end Go.Sx
