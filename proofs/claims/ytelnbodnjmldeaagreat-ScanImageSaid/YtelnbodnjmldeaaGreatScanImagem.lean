/-
  The law's call, whatever the world: it answers true, and lays at most new blocks.
-/
import Derived.Test.YtelnbodnjmldeaaGreatS9
import Derived.Test.YtelnbodnjmldeaaGreatSyS
import Derived.KernelRfl
set_option linter.all false
set_option maxHeartbeats 1000000
namespace Go.Proofs.YtelnbodnjmldeaaGreat.vars
open Go Go.Sx
def walkScanImage {W:World} {p:List MemPlace} (l0:List UInt8) (x0:AV) (sl0:SlV F5 1 l0 x0) (VM:True) (m0:l0.length<=maxLen) {v0:Value} (c0:Ac (Jq (Hs W (p))) x0 v0) (l1:List UInt8) (x1:AV) (sl1:SlV F5 1 l1 x1) (Jy:True) (m1:l1.length<=maxLen) {v1:Value} (c1:Ac (Jq (Hs W (p))) x1 v1) (a2:Int) (w2:(Lit.int .u8 a2).wf=true):Calls Tryz.prog 5 #[v0,v1,.int .u8 a2] W λe w'=>e=.returned (.bool true)/\Go.Sx.GrownB W w':=by
 refine Calls.mono (@rr gI Tryz.prog 5 [x0,x1,.int .u8 a2] _ (q5 w2 sl0 m0 sl1 m1) W p [v0,v1,.int .u8 a2] (by simp only [Ah,Ac];exact ⟨_,_,rfl,c0,_,_,rfl,c1,_,_,rfl,rfl,rfl⟩) ⟨λg=>by show Ac _ AV.opq _;simp [Ac],λi a _ h=>by cases h⟩) λe w' h=>?_
 obtain ⟨⟨E,u,h1,h2⟩,h3⟩:=h
 simp only [Ac]at h2
 subst h2
 exact ⟨h1,h3⟩
end Go.Proofs.YtelnbodnjmldeaaGreat.vars
