/-
  The law's call, whatever the world: it answers true, and lays at most new blocks.
-/
import Derived.Test.YtaamplmpnmegdaaGreatDoorK0g
import Derived.Test.YtaamplmpnmegdaaGreatDoorSyQ
import Derived.KernelRfl
set_option linter.unusedVariables false
set_option linter.unusedSimpArgs false
namespace Go.Proofs.YtaamplmpnmegdaaGreatDoor.vars
open Go Go.Sx
theorem walkCtrlInputs {W:World} {p:List MemPlace} {m:Int} (hm:W.cell? ⟨1,0,none⟩=some (.int .i64 m)) (l0:List (UInt8×UInt8)) (x0:AV) (sl0:SlV b_ 2 l0 x0) (pl0:True) (m0:l0.length<=maxLen) {v0:Value} (c0:Con (lN_ (ij_ W (.cell 1 0::p))) x0 v0):Calls Tryz.prog 3 #[v0] W λe w'=>e=.returned (.bool true)/\Go.Sx.GrownB W w':=by
 refine Calls.mono (tm_ (args:=[x0]) (v:=.bool true) (q3 sl0) W p (vs:=[v0]) hm (by simp only [b5_,pY_ (sl0.ok F_)]) (by simp only [ConL];exact ⟨_,_,rfl,c0,rfl⟩)) λe w' h=>?_
 obtain ⟨⟨E,u,h1,h2⟩,h3⟩:=h
 simp only [Con]at h2
 subst h2
 exact ⟨h1,h3⟩
end Go.Proofs.YtaamplmpnmegdaaGreatDoor.vars
