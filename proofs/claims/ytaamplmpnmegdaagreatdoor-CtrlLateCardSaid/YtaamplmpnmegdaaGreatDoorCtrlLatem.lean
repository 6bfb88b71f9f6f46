/-
  The law's call, whatever the world: it answers true, and lays at most new blocks.
-/
import Derived.Test.YtaamplmpnmegdaaGreatDoorFA
import Derived.Test.YtaamplmpnmegdaaGreatDoorSyQ
import Derived.KernelRfl
set_option linter.unusedVariables false
set_option linter.unusedSimpArgs false
namespace Go.Proofs.YtaamplmpnmegdaaGreatDoor.vars
open Go Go.Sx
theorem walkCtrlLate {W:World} {p:List MemPlace} {m:Int} (hm:W.cell? ⟨1,0,none⟩=some (.int .i64 m)) (x0:A4) {v0:Value} (c0:Con (lN_ (ii_ W (.cell 1 0::p))) (.agg (g_ x0)) v0) (l1:List Nat) (x1:AV) (sl1:SlV f_ 1 l1 x1) (pl1:∀v∈l1,v<65536) (m1:l1.length<=maxLen) {v1:Value} (c1:Con (lN_ (ii_ W (.cell 1 0::p))) x1 v1):Calls Tryz.prog 4 #[v0,v1] W λe w'=>e=.returned (.bool true)/\Go.Sx.GrownB W w':=by
 refine Calls.mono (tj_ (args:=[.agg (g_ x0),x1]) (v:=.bool true) (p4 sl1 pl1) W p (vs:=[v0,v1]) hm (by simp only [b5_,aW_,g_,pV_ (sl1.ok A_)]) (by simp only [ConL,Con];exact ⟨_,_,rfl,c0,_,_,rfl,c1,rfl⟩)) λe w' h=>?_
 obtain ⟨⟨E,u,h1,h2⟩,h3⟩:=h
 simp only [Con]at h2
 subst h2
 exact ⟨h1,h3⟩
end Go.Proofs.YtaamplmpnmegdaaGreatDoor.vars
