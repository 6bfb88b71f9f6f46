/-
  The law's call, whatever the world: it answers true, and lays at most new blocks.
-/
import Derived.Test.YtijpblconliffaaGreatDoorC3
import Derived.Test.YtijpblconliffaaGreatDoorSyS
import Derived.KernelRfl
set_option linter.unusedVariables false
set_option linter.unusedSimpArgs false
namespace Go.Proofs.YtijpblconliffaaGreatDoor.vars
open Go Go.Sx
theorem walkServAll {W:World} {p:List MemPlace} (l0:List UInt8) (x0:AV) (sl0:SlV R_ 1 l0 x0) (pl0:True) (m0:l0.length<=maxLen) {v0:Value} (c0:Con (j1_ (k5_ W (p))) x0 v0) (l1:List UInt8) (x1:AV) (sl1:SlV R_ 1 l1 x1) (pl1:True) (m1:l1.length<=maxLen) {v1:Value} (c1:Con (j1_ (k5_ W (p))) x1 v1) (a2:Bool) (a3:Int) (w3:(Lit.int .u8 a3).wf=true):Calls Tryz.prog 3 #[v0,v1,.bool a2,.int .u8 a3] W λe w'=>e=.returned (.bool true)/\Go.Sx.GrownB W w':=by
 refine Calls.mono (@ty_ gI Tryz.prog 3 [x0,x1,.bool a2,.int .u8 a3] _ (q3 w3 a2 sl0 m0 sl1 m1) W p [v0,v1,.bool a2,.int .u8 a3] (by simp only [ConL,Con];exact ⟨_,_,rfl,c0,_,_,rfl,c1,_,_,rfl,rfl,_,_,rfl,rfl,rfl⟩) ⟨λg=>by show Con _ AV.opq _;simp [Con],λi a _ h=>by cases h⟩) λe w' h=>?_
 obtain ⟨⟨E,u,h1,h2⟩,h3⟩:=h
 simp only [Con]at h2
 subst h2
 exact ⟨h1,h3⟩
end Go.Proofs.YtijpblconliffaaGreatDoor.vars
