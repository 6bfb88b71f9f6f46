/-
  The law's call, whatever the world: it answers true, and lays at most new blocks.
-/
import Derived.Test.YtelnbodnjmldeaaGreatS9
import Derived.Test.YtelnbodnjmldeaaGreatSyS
import Derived.KernelRfl
set_option linter.all false
set_option maxHeartbeats 1000000
namespace Go.Proofs.YtelnbodnjmldeaaGreat.vars
open Go Go.Sx
def walkScanAll {W:World} {p:List MemPlace} (l0:List UInt8) (x0:AV) (sl0:SlV F6 1 l0 x0) (R3:True) (m0:l0.length<=maxLen) {v0:Value} (c0:Ac (JF (G2 W (p))) x0 v0) (a1:Int) (w1:(Lit.int .u8 a1).wf=true) (l2:List UInt8) (x2:AV) (sl2:SlV F6 1 l2 x2) (pl2:True) (m2:l2.length<=maxLen) {v2:Value} (c2:Ac (JF (G2 W (p))) x2 v2):Calls Tryz.prog 3 #[v0,.int .u8 a1,v2] W λe w'=>e=.returned (.bool true)/\Go.Sx.GrownB W w':=by
 refine Calls.mono (@uZ gI Tryz.prog 3 [x0,.int .u8 a1,x2] _ (q3 w1 sl0 m0 sl2 m2) W p [v0,.int .u8 a1,v2] (by simp only [Ah,Ac];exact ⟨_,_,rfl,c0,_,_,rfl,rfl,_,_,rfl,c2,rfl⟩) ⟨λg=>by show Ac _ AV.opq _;simp [Ac],λi a _ h=>by cases h⟩) λe w' h=>?_
 obtain ⟨⟨E,u,h1,h2⟩,h3⟩:=h
 simp only [Ac]at h2
 subst h2
 exact ⟨h1,h3⟩
end Go.Proofs.YtelnbodnjmldeaaGreat.vars
