/-
  The law's call, whatever the world: it answers true, and lays at most new blocks.
-/
import Derived.Test.YtijpblconliffaaGreatDoorC3
import Derived.Test.YtijpblconliffaaGreatDoorSyS
import Derived.KernelRfl
set_option linter.unusedVariables false
set_option linter.unusedSimpArgs false
namespace Go.Proofs.YtijpblconliffaaGreatDoor.vars
open Go Go.Sx
theorem walkServApart {W:World} {p:List MemPlace} (l0:List UInt8) (x0:AV) (sl0:SlV A_ 1 l0 x0) (pl0:True) (m0:l0.length<=maxLen) {v0:Value} (c0:Con (j1_ (k5_ W (p))) x0 v0) (a1:Int) (w1:(Lit.int .u8 a1).wf=true):Calls Tryz.prog 4 #[v0,.int .u8 a1] W λe w'=>e=.returned (.bool true)/\Go.Sx.GrownB W w':=by
 refine Calls.mono (@ty_ gI Tryz.prog 4 [x0,.int .u8 a1] _ (q4 w1 sl0 m0) W p [v0,.int .u8 a1] (by simp only [ConL,Con];exact ⟨_,_,rfl,c0,_,_,rfl,rfl,rfl⟩) ⟨λg=>by show Con _ AV.opq _;simp [Con],λi a _ h=>by cases h⟩) λe w' h=>?_
 obtain ⟨⟨E,u,h1,h2⟩,h3⟩:=h
 simp only [Con]at h2
 subst h2
 exact ⟨h1,h3⟩
end Go.Proofs.YtijpblconliffaaGreatDoor.vars
