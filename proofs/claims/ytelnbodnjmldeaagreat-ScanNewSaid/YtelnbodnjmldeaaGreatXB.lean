/-
  Blocks' steps: the program's.
-/
import Derived.Test.YtelnbodnjmldeaaGreatWI
import Derived.Test.YtelnbodnjmldeaaGreatFA
import Derived.Test.YtelnbodnjmldeaaGreatSyK
import Derived.Test.YtelnbodnjmldeaaGreatSyM
import Derived.Test.YtelnbodnjmldeaaGreatWD
set_option maxRecDepth 100000
set_option linter.unusedVariables false
set_option linter.unusedSimpArgs false
namespace Go.Proofs.YtelnbodnjmldeaaGreat.vars
open Go Go.Sx
theorem mk_ (l:List FV):(bA_ oH_ l).length=l.length*3:=by
 induction l with
 |nil=>rfl
 |cons a r ih=>simp only [bA_,List.length_append,yg_,ih,List.length_cons];omega
theorem yA_ {l:List FV} (h:l.length=1\/l.length=2):∃a b r,l++[FV.z]=a::b::r/\l.headD FV.z=a/\l.tail.headD FV.z=b:=by rcases l with _|⟨a,_|⟨b,_|⟨c,r⟩⟩⟩;simp at h;exact ⟨_,_,_,rfl,rfl,rfl⟩;exact ⟨_,_,_,rfl,rfl,rfl⟩;simp at h
end Go.Proofs.YtelnbodnjmldeaaGreat.vars
