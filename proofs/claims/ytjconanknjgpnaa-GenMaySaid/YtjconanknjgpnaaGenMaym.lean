/-
  The law's call, whatever the world: it answers true, and lays at most new blocks.
-/
import Derived.Test.YtjconanknjgpnaaVC
import Derived.Test.YtjconanknjgpnaaSyS
import Derived.KernelRfl
set_option linter.unusedVariables false
set_option linter.unusedSimpArgs false
namespace Go.Proofs.Ytjconanknjgpnaa.vars
open Go Go.Sx
theorem walkGenMay {W:World} {p:List MemPlace} (l0:List UInt8) (x0:AV) (sl0:SlV encC 1 l0 x0) (pl0:True) (m0:l0.length<=maxLen) {v0:Value} (c0:Con (envOf (imOf W (p))) x0 v0):Calls Try.prog 4 #[v0] W λe w'=>e=.returned (.bool true)/\Go.Sx.GrownB W w':=by
 refine Calls.mono (@pure_grownI gI Try.prog 4 [x0] _ (q4 sl0 m0) W p [v0] (by simp only [ConL,Con];exact ⟨_,_,rfl,c0,rfl⟩) ⟨λg=>by show Con _ AV.opq _;simp [Con],λi a _ h=>by cases h⟩) λe w' h=>?_
 obtain ⟨⟨E,u,h1,h2⟩,h3⟩:=h
 simp only [Con]at h2
 subst h2
 exact ⟨h1,h3⟩
end Go.Proofs.Ytjconanknjgpnaa.vars
