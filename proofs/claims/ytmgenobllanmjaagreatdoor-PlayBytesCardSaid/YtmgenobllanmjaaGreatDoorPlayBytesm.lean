/-
  The law's call, whatever the world: it answers true, and lays at most new blocks.
-/
import Derived.Test.YtmgenobllanmjaaGreatDoorRB
import Derived.Test.YtmgenobllanmjaaGreatDoorSyK
import Derived.KernelRfl
set_option linter.unusedVariables false
set_option linter.unusedSimpArgs false
namespace Go.Proofs.YtmgenobllanmjaaGreatDoor.vars
open Go Go.Sx
theorem walkPlayBytes {W:World} {p:List MemPlace} {m:Int} (hm:W.cell? ⟨1,0,none⟩=some (.int .i64 m)) (l0:List UInt8) (x0:AV) (sl0:SlV a_ 1 l0 x0) (pl0:True) (m0:l0.length<=maxLen) {v0:Value} (c0:Con (fI_ (ew_ W (.cell 1 0::p))) x0 v0) (l1:List GSt) (x1:AV) (sl1:SlV i_ 7 l1 x1) (pl1:∀s∈l1,F64 s.v) (m1:l1.length<=maxLen) {v1:Value} (c1:Con (fI_ (ew_ W (.cell 1 0::p))) x1 v1) (l2:List UInt8) (x2:AV) (sl2:SlV a_ 1 l2 x2) (pl2:True) (m2:l2.length<=maxLen) {v2:Value} (c2:Con (fI_ (ew_ W (.cell 1 0::p))) x2 v2):Calls Tryz.prog 3 #[v0,v1,v2] W λe w'=>e=.returned (.bool true)/\Go.Sx.GrownB W w':=by
 refine Calls.mono (up_ (args:=[x0,x1,x2]) (v:=.bool true) (q7 sl0 sl1 pl1 sl2 m2) W p (vs:=[v0,v1,v2]) hm (by simp only [cl_,qB_ (sl0.ok c_),qB_ (sl1.ok qV_),qB_ (sl2.ok c_)]) (by simp only [ConL];exact ⟨_,_,rfl,c0,_,_,rfl,c1,_,_,rfl,c2,rfl⟩)) λe w' h=>?_
 obtain ⟨⟨E,u,h1,h2⟩,h3⟩:=h
 simp only [Con]at h2
 subst h2
 exact ⟨h1,h3⟩
end Go.Proofs.YtmgenobllanmjaaGreatDoor.vars
