/-
  A symbol as a number, a number as a value: short names for trees.
-/
import Derived.Test.YteegdnoekakdbaaGreatDoorSyZ
namespace Go.Proofs.YteegdnoekakdbaaGreatDoor.vars
open Go Go.Sx
instance symN (n:Nat):OfNat AV n:=⟨.sym n⟩
abbrev J (n:Int):AV:=.int .i64 n
abbrev K (o:XOp) (a:List AV) (i:Nat) (t:VT):VT:=.lt o a i none t
end Go.Proofs.YteegdnoekakdbaaGreatDoor.vars
