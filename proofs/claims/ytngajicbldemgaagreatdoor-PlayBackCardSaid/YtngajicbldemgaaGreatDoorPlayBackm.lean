/-
  The law's call, whatever the world: it answers true, and lays at most new blocks.
-/
import Derived.Test.YtngajicbldemgaaGreatDoorVC
import Derived.Test.YtngajicbldemgaaGreatDoorSyK
import Derived.KernelRfl
set_option linter.unusedVariables false
set_option linter.unusedSimpArgs false
namespace Go.Proofs.YtngajicbldemgaaGreatDoor.vars
open Go Go.Sx
theorem walkPlayBack {W:World} {p:List MemPlace} {m:Int} (hm:W.cell? ⟨1,0,none⟩=some (.int .i64 m)) (l0:List UInt8) (x0:AV) (sl0:SlV a_ 1 l0 x0) (pl0:True) (m0:l0.length<=maxLen) {v0:Value} (c0:Con (l4_ (iE_ W (.cell 1 0::p))) x0 v0) (a1:Int) (w1:(Lit.int .u16 a1).wf=true):Calls Tryz.prog 4 #[v0,.int .u16 a1] W λe w'=>e=.returned (.bool true)/\Go.Sx.GrownB W w':=by
 refine Calls.mono (tJ_ (args:=[x0,.int .u16 a1]) (v:=.bool true) (q4w sl0 w1) W p (vs:=[v0,.int .u16 a1]) hm (by simp only [cb_,a0_,qa_ (sl0.ok b_)]) (by simp only [ConL,Con];exact ⟨_,_,rfl,c0,_,_,rfl,rfl,rfl⟩)) λe w' h=>?_
 obtain ⟨⟨E,u,h1,h2⟩,h3⟩:=h
 simp only [Con]at h2
 subst h2
 exact ⟨h1,h3⟩
end Go.Proofs.YtngajicbldemgaaGreatDoor.vars
