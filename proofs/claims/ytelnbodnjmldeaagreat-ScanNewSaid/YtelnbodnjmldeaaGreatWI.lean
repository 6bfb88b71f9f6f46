/-
  flow: what expressions come to.
-/
import Derived.Test.YtelnbodnjmldeaaGreatWD
import Derived.Test.YtelnbodnjmldeaaGreatFA
import Derived.Test.YtelnbodnjmldeaaGreatV4
set_option maxRecDepth 100000
set_option linter.unusedVariables false
set_option linter.unusedSimpArgs false
namespace Go.Proofs.YtelnbodnjmldeaaGreat.vars
open Go Go.Sx
def MR (mem:List FV) (now left:Int):List AV:=[D_ mem,.int .i64 now,.int .i64 left]
structure RSt where
 mem:List FV
 left:Int
 e:Int
def nv (i:Int):FV:=⟨2,i,some 0⟩
structure MS where
 pc:Int
 st:List FV
 mem:List FV
 used:Int
 now:Int
 over:Bool
 err:Int
def g_ (i:GI):Nat:=if i.op=1\/i.op=2\/i.op=20\/i.op=23 then 0 else if i.op=3\/i.op=15\/i.op=16\/i.op=17\/i.op=18\/i.op=21 then 1 else if i.op=22 then i.n.toNat else 2
def Good (T:List (List Int)) (b:Nat) (s:List GI):Prop:=∀(j:Nat) (i:GI) (K:List Int),s[j]? =some i->T[b+j]? =some K->TI T (b+j) i K
section
variable {l:List GI} {T:List (List Int)}
end
structure MT (l:List GI) (T:List (List Int)) (m:MS) (p:Nat) (i:GI) (K:List Int):Prop where
 pc:m.pc=(p:Int)
 at_:l[p]? =some i
 ty:T[p]? =some K
 st:m.st.map FV.k=K
 tv:∀v∈m.st,TV v
 mem:zi_ m.mem
section
variable {l:List GI} {T:List (List Int)} {m:MS} {mem:List FV}
end
def yA_ (m:MS):Prop:=m.over=true\/m.err≠0
instance (m:MS):Decidable (yA_ m):=by unfold yA_;exact inferInstance
def KR (m:MS) (s:AV):List AV:=[.int .i64 m.pc,s,D_ m.mem,.int .i64 m.used,.int .i64 m.now,.bool m.over,.int .i64 m.err]
theorem Bd_ (m:MS) {s:AV} (hs:okC s=true) {l:List AV} (hl:okL l=true):okL (KR m s++l)=true:=kO_.okL_join (by simp only [KR,okL,okC,wD_,hs]) hl
theorem zH_ (m:MS) {s:AV} (hs:okC s=true):okL (KR m s)=true:=by simp only [KR,okL,okC,wD_,hs]
abbrev St (l:List FV) (s:AV):Prop:=SlV oH_ 3 l s
theorem St.okC {l:List FV} {s:AV} (h:St l s):okC s=true:=SlV.ok h okV
end Go.Proofs.YtelnbodnjmldeaaGreat.vars
