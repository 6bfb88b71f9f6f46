/-
  flow: what expressions come to.
-/
import Derived.Test.YtelnbodnjmldeaaGreatWD
import Derived.Test.YtelnbodnjmldeaaGreatFA
import Derived.Test.YtelnbodnjmldeaaGreatV4
set_option maxRecDepth 100000
set_option linter.unusedVariables false
set_option linter.unusedSimpArgs false
namespace Go.Proofs.YtelnbodnjmldeaaGreat.vars
open Go Go.Sx
def MR (mem:List FV) (now left:Int):List AV:=[D_ mem,.int .i64 now,.int .i64 left]
structure RSt where
 mem:List FV
 left:Int
 e:Int
def nv (i:Int):FV:=⟨2,i,some 0⟩
structure MS where
 pc:Int
 st:List FV
 mem:List FV
 used:Int
 now:Int
 over:Bool
 err:Int
def e_ (i:GI):Nat:=if i.op=1\/i.op=2\/i.op=20\/i.op=23 then 0 else if i.op=3\/i.op=15\/i.op=16\/i.op=17\/i.op=18\/i.op=21 then 1 else if i.op=22 then i.n.toNat else 2
def Ba_ (i:GI):FV:=⟨i.vk,i.vi,some i.vf⟩
def TI (T:List (List Int)) (p:Nat) (i:GI) (K:List Int):Prop:=
 ∃K0 ks,K=K0++ks/\ks.length=e_ i/\K.length<=40/\(
  (∃k,T[p+1]? =some (K0++[k])/\(
    (i.op=1/\TV (Ba_ i)/\i.vk=k)\/(i.op=2/\(i.ad,k)∈uS_)\/
    (i.op=3/\i.ad=8/\i.n=4/\k=2/\(ks=[2]\/ks=[3]))\/
    (i.op=17/\2<=i.kd/\i.kd<=5/\k=i.kd/\ks=[i.n]/\2<=i.n/\i.n<=5)\/
    (OpK i.op i.kd/\k=(if 9<=i.op/\i.op<=12 then 1 else i.kd)/\(ks=[i.kd]/\(i.op=15\/i.op=16)\/ks=[i.kd,i.kd]/\i.op<=14))))\/
  (T[p+1]? =some K0/\(
    (i.op=18/\∃k,ks=[k]/\(i.ad,k)∈wrL)\/
    (i.op=19/\i.ad=8/\i.n=4/\(ks=[2,2]\/ks=[2,3]))\/
    (i.op=22/\Blk i.kd i.ad ks/\i.n=(ks.length:Int))\/
    (i.op=21/\ks=[1]/\∃q:Nat,i.ad=(q:Int)/\T[q]? =some K0)))\/
  (i.op=20/\∃q:Nat,i.ad=(q:Int)/\T[q]? =some K0)\/
  i.op=23)
def Good (T:List (List Int)) (b:Nat) (s:List GI):Prop:=∀(j:Nat) (i:GI) (K:List Int),s[j]? =some i->T[b+j]? =some K->TI T (b+j) i K
section
variable {l:List GI} {T:List (List Int)}
end
structure MT (l:List GI) (T:List (List Int)) (m:MS) (p:Nat) (i:GI) (K:List Int):Prop where
 pc:m.pc=(p:Int)
 at_:l[p]? =some i
 ty:T[p]? =some K
 st:m.st.map FV.k=K
 tv:∀v∈m.st,TV v
 mem:zg_ m.mem
section
variable {l:List GI} {T:List (List Int)} {m:MS} {mem:List FV}
end
def yy_ (m:MS):Prop:=m.over=true\/m.err≠0
instance (m:MS):Decidable (yy_ m):=by unfold yy_;exact inferInstance
def KR (m:MS) (s:AV):List AV:=[.int .i64 m.pc,s,D_ m.mem,.int .i64 m.used,.int .i64 m.now,.bool m.over,.int .i64 m.err]
theorem Bd_ (m:MS) {s:AV} (hs:okC s=true) {l:List AV} (hl:okL l=true):okL (KR m s++l)=true:=kP_.okL_join (by simp only [KR,okL,okC,wB_,hs]) hl
theorem zF_ (m:MS) {s:AV} (hs:okC s=true):okL (KR m s)=true:=by simp only [KR,okL,okC,wB_,hs]
abbrev St (l:List FV) (s:AV):Prop:=SlV oH_ 3 l s
theorem St.okC {l:List FV} {s:AV} (h:St l s):okC s=true:=SlV.ok h okV
end Go.Proofs.YtelnbodnjmldeaaGreat.vars
