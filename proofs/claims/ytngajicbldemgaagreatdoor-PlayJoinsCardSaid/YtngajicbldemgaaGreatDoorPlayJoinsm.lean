/-
  The law's call, whatever the world: it answers true, and lays at most new blocks.
-/
import Derived.Test.YtngajicbldemgaaGreatDoorVC
import Derived.Test.YtngajicbldemgaaGreatDoorSyK
import Derived.KernelRfl
set_option linter.unusedVariables false
set_option linter.unusedSimpArgs false
namespace Go.Proofs.YtngajicbldemgaaGreatDoor.vars
open Go Go.Sx
theorem walkPlayJoins {W:World} {p:List MemPlace} {m:Int} (hm:W.cell? ⟨1,0,none⟩=some (.int .i64 m)) (l0:List UInt8) (x0:AV) (sl0:SlV a_ 1 l0 x0) (pl0:True) (m0:l0.length<=maxLen) {v0:Value} (c0:Con (l4_ (iE_ W (.cell 1 0::p))) x0 v0) (l1:List UInt8) (x1:AV) (sl1:SlV a_ 1 l1 x1) (pl1:True) (m1:l1.length<=maxLen) {v1:Value} (c1:Con (l4_ (iE_ W (.cell 1 0::p))) x1 v1):Calls Tryz.prog 5 #[v0,v1] W λe w'=>e=.returned (.bool true)/\Go.Sx.GrownB W w':=by
 refine Calls.mono (tJ_ (args:=[x0,x1]) (v:=.bool true) (p5 sl0 sl1) W p (vs:=[v0,v1]) hm (by simp only [cb_,qa_ (sl0.ok b_),qa_ (sl1.ok b_)]) (by simp only [ConL];exact ⟨_,_,rfl,c0,_,_,rfl,c1,rfl⟩)) λe w' h=>?_
 obtain ⟨⟨E,u,h1,h2⟩,h3⟩:=h
 simp only [Con]at h2
 subst h2
 exact ⟨h1,h3⟩
end Go.Proofs.YtngajicbldemgaaGreatDoor.vars
