/-
  The law's call, whatever the world: it answers true, and lays at most new blocks.
-/
import Derived.Test.YtelnbodnjmldeaaGreatS5
import Derived.Test.YtelnbodnjmldeaaGreatSyS
import Derived.KernelRfl
set_option linter.unusedVariables false
set_option linter.unusedSimpArgs false
namespace Go.Proofs.YtelnbodnjmldeaaGreat.vars
open Go Go.Sx
theorem walkScanNew {W:World} {p:List MemPlace} (l0:List UInt8) (x0:AV) (sl0:SlV vy_ 1 l0 x0) (pl0:True) (m0:l0.length<=maxLen) {v0:Value} (c0:Con (j4_ (k6_ W (p))) x0 v0) (a1:Int) (w1:(Lit.int .i64 a1).wf=true) (l2:List GI) (x2:AV) (sl2:SlV g_ 7 l2 x2) (pl2:True) (m2:l2.length<=maxLen) {v2:Value} (c2:Con (j4_ (k6_ W (p))) x2 v2):Calls Tryz.prog 4 #[v0,.int .i64 a1,v2] W λe w'=>e=.returned (.bool true)/\Go.Sx.GrownB W w':=by
 refine Calls.mono (@tx_ gI Tryz.prog 4 [x0,.int .i64 a1,x2] _ (q4 sl0 m0 a1 sl2) W p [v0,.int .i64 a1,v2] (by simp only [ConL,Con];exact ⟨_,_,rfl,c0,_,_,rfl,rfl,_,_,rfl,c2,rfl⟩) ⟨λg=>by show Con _ AV.opq _;simp [Con],λi a _ h=>by cases h⟩) λe w' h=>?_
 obtain ⟨⟨E,u,h1,h2⟩,h3⟩:=h
 simp only [Con]at h2
 subst h2
 exact ⟨h1,h3⟩
end Go.Proofs.YtelnbodnjmldeaaGreat.vars
