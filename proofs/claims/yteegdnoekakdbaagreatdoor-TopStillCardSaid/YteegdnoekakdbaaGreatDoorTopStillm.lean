/-
  The law's call, whatever the world: it answers true, and lays at most new blocks.
-/
import Derived.Test.YteegdnoekakdbaaGreatDoorTZ
import Derived.Test.YteegdnoekakdbaaGreatDoorSyW
import Derived.KernelRfl
set_option linter.unusedVariables false
set_option linter.unusedSimpArgs false
namespace Go.Proofs.YteegdnoekakdbaaGreatDoor.vars
open Go Go.Sx
theorem walkTopStill {W:World} {p:List MemPlace} {m:Int} (hm:W.cell? ⟨1,0,none⟩=some (.int .i64 m)) (a0:Int) (w0:(Lit.int .u8 a0).wf=true) (a1:Int) (w1:(Lit.int .u8 a1).wf=true):Calls Tryz.prog 3 #[.int .u8 a0,.int .u8 a1] W λe w'=>e=.returned (.bool true)/\Go.Sx.GrownB W w':=by
 refine Calls.mono (te_ (args:=[.int .u8 a0,.int .u8 a1]) (v:=.bool true) (q3 w0 w1) W p (vs:=[.int .u8 a0,.int .u8 a1]) hm (by simp only [cm_,bL_]) (by simp only [ConL,Con];exact ⟨_,_,rfl,rfl,_,_,rfl,rfl,rfl⟩)) λe w' h=>?_
 obtain ⟨⟨E,u,h1,h2⟩,h3⟩:=h
 simp only [Con]at h2
 subst h2
 exact ⟨h1,h3⟩
end Go.Proofs.YteegdnoekakdbaaGreatDoor.vars
