/-
  No cell of these rows narrows 'for every input' (looked for: loops, veiled, ifaces, maps, wideKeys, modest, calm, conditions, laid).
  DERIVED. THE GIVEN ROWS OF THIS SEAT. 3 by the template 'for every input the law returns true; each argument reads behind the call as it read before'; 0 by the template 'total and deterministic' (their statements: YtbceomdmpbmnkaaTotals.lean).
  GIVEN WITH THE SEED: the statements are not yours to turn. If you find one false, say at which input.
  Laid BY PROGRAM, IN A SANDBOX (cutbox-rows.mjs): the forced cells as the released guide's own fill.sh prints them over the translation 430fabb8859fd047… (all of the seat's roots in one cut). By AI agents, Wed Nov 11 2026. No macro, syntax, notation, axiom, sorry.
-/
import Derived.Test.YtbceomdmpbmnkaaChecked
import GoSem.Claim
import GoSem.ClaimJoined
import GoSem.ClaimMapViews
import Derived.JoinedTies
import Derived.KernelRfl
namespace Go.Proofs.Ytbceomdmpbmnkaa
/- THE CELL 'sum', in the pinned program and in every row, IS THE sha256 OF THE DUMP (.gsa) THAT YtbceomdmpbmnkaaProg.lean LOADS. Nothing in Lean hashes anything: it is a label: what it is worth is what the hold of that sum in a sandbox is worth. -/
noncomputable def Try.pinned : Pinned := { name := "ytbceomdmpbmnkaa", sum := "430fabb8859fd047a53360271ee8279c22ec3221c2c42ecd60ba0d311fedd4c8", checked := Try.checked }
namespace Rows
def none {H : Type} : Left H := { results := [], args := [] }

/-- 'annunciatorlaw3.VarsAll': WHATEVER THE INPUT: true; the input reads as it did. -/
def varsAllSpec : ChangeSpec := { name := "varsAll", fn := fun _ => fun
  | [d1, d2, d3, d4, d5, d6, d7] => { results := [.lit (.bool true)], args := [d1, d2, d3, d4, d5, d6, d7] }
  | _ => none }
def varsAllRow : OpenClaim := { program := "ytbceomdmpbmnkaa", sum := "430fabb8859fd047a53360271ee8279c22ec3221c2c42ecd60ba0d311fedd4c8", func := "annunciator/annunciatorlaw3.VarsAll", spec := "varsAll", inPlace := ["math.Float64bits"], apart := false }
def VarsAllSaid : Prop := varsAllRow.holds Try.pinned (OpenSpec.ofChange varsAllSpec)

/-- ITS FALSE NEIGHBOUR: 'it returns false'. Refute it at one input. -/
def varsAllWrong : ChangeSpec := { name := "varsAll", fn := fun _ => fun
  | [d1, d2, d3, d4, d5, d6, d7] => { results := [.lit (.bool false)], args := [d1, d2, d3, d4, d5, d6, d7] }
  | _ => none }
def VarsAllWrongFalsely : Prop := varsAllRow.holds Try.pinned (OpenSpec.ofChange varsAllWrong)

/-- 'annunciatorlaw3.VarsSafe': WHATEVER THE INPUT: true; the input reads as it did. -/
def varsSafeSpec : ChangeSpec := { name := "varsSafe", fn := fun _ => fun
  | [d] => { results := [.lit (.bool true)], args := [d] }
  | _ => none }
def varsSafeRow : OpenClaim := { program := "ytbceomdmpbmnkaa", sum := "430fabb8859fd047a53360271ee8279c22ec3221c2c42ecd60ba0d311fedd4c8", func := "annunciator/annunciatorlaw3.VarsSafe", spec := "varsSafe", inPlace := ["math.Float64bits"], apart := false }
def VarsSafeSaid : Prop := varsSafeRow.holds Try.pinned (OpenSpec.ofChange varsSafeSpec)

/-- ITS FALSE NEIGHBOUR: 'it returns false'. Refute it at one input. -/
def varsSafeWrong : ChangeSpec := { name := "varsSafe", fn := fun _ => fun
  | [d] => { results := [.lit (.bool false)], args := [d] }
  | _ => none }
def VarsSafeWrongFalsely : Prop := varsSafeRow.holds Try.pinned (OpenSpec.ofChange varsSafeWrong)

/-- 'annunciatorlaw3.VarsWhere': WHATEVER THE INPUT: true; the input reads as it did. -/
def varsWhereSpec : ChangeSpec := { name := "varsWhere", fn := fun _ => fun
  | [d] => { results := [.lit (.bool true)], args := [d] }
  | _ => none }
def varsWhereRow : OpenClaim := { program := "ytbceomdmpbmnkaa", sum := "430fabb8859fd047a53360271ee8279c22ec3221c2c42ecd60ba0d311fedd4c8", func := "annunciator/annunciatorlaw3.VarsWhere", spec := "varsWhere", inPlace := ["math.Float64bits"], apart := false }
def VarsWhereSaid : Prop := varsWhereRow.holds Try.pinned (OpenSpec.ofChange varsWhereSpec)

/-- ITS FALSE NEIGHBOUR: 'it returns false'. Refute it at one input. -/
def varsWhereWrong : ChangeSpec := { name := "varsWhere", fn := fun _ => fun
  | [d] => { results := [.lit (.bool false)], args := [d] }
  | _ => none }
def VarsWhereWrongFalsely : Prop := varsWhereRow.holds Try.pinned (OpenSpec.ofChange varsWhereWrong)

/- THE SECOND FORM. 'bulk': how many values and letters a reading holds, each counted each time it is reached (what is shared counts as often as it is met; a slice's spare places count too). A statement '..UptoSaid' is the law's where the arguments, and the package variables that the reading takes, are together of bulk at most 1048576: NARROWER than '..Said'. Prove '..Said' where nothing that the law and all that it calls make is longer than what came in: it says more and counts as full. Else prove '..UptoSaid'. A law counts once. -/
mutual
def uptoBulk {H : Type} : DataW H → Nat
  | .lit (.string bytes) => bytes.length + 1
  | .lit _ => 1
  | .nil => 1
  | .ptr d => uptoBulk d + 1
  | .slice elems spare => uptoBulkAll elems + uptoBulkAll spare + 1
  | .agg parts => uptoBulkAll parts + 1
  | .iface _ d => uptoBulk d + 1
  | .map entries => uptoBulkEntries entries + 1
  | .held _ => 1
def uptoBulkAll {H : Type} : List (DataW H) → Nat
  | [] => 0
  | d :: r => uptoBulk d + uptoBulkAll r
def uptoBulkEntries {H : Type} : List (Lit × DataW H) → Nat
  | [] => 0
  | x :: r => uptoBulkEntry x + uptoBulkEntries r
def uptoBulkEntry {H : Type} : Lit × DataW H → Nat
  | (.string bytes, d) => bytes.length + uptoBulk d + 1
  | (_, d) => uptoBulk d + 1
 end
def uptoSmall : (H : Type) → List (DataW H) → Bool := fun _ ds => decide (uptoBulkAll ds ≤ 1048576)
def OpenSpec.upto (s : _root_.Go.ChangeSpec) : _root_.Go.OpenSpec := { _root_.Go.OpenSpec.ofChange s with cond := some uptoSmall }

/-- 'annunciatorlaw3.VarsAll', WHERE WHAT IT READS IS OF BULK AT MOST 1048576: true; the input reads as it did. -/
def varsAllUptoRow : OpenClaim := { program := "ytbceomdmpbmnkaa", sum := "430fabb8859fd047a53360271ee8279c22ec3221c2c42ecd60ba0d311fedd4c8", func := "annunciator/annunciatorlaw3.VarsAll", spec := "varsAll", inPlace := ["math.Float64bits"], apart := false, narrowed := true }
def VarsAllUptoSaid : Prop := varsAllUptoRow.holds Try.pinned (OpenSpec.upto varsAllSpec)

/-- 'annunciatorlaw3.VarsSafe', WHERE WHAT IT READS IS OF BULK AT MOST 1048576: true; the input reads as it did. -/
def varsSafeUptoRow : OpenClaim := { program := "ytbceomdmpbmnkaa", sum := "430fabb8859fd047a53360271ee8279c22ec3221c2c42ecd60ba0d311fedd4c8", func := "annunciator/annunciatorlaw3.VarsSafe", spec := "varsSafe", inPlace := ["math.Float64bits"], apart := false, narrowed := true }
def VarsSafeUptoSaid : Prop := varsSafeUptoRow.holds Try.pinned (OpenSpec.upto varsSafeSpec)

/-- 'annunciatorlaw3.VarsWhere', WHERE WHAT IT READS IS OF BULK AT MOST 1048576: true; the input reads as it did. -/
def varsWhereUptoRow : OpenClaim := { program := "ytbceomdmpbmnkaa", sum := "430fabb8859fd047a53360271ee8279c22ec3221c2c42ecd60ba0d311fedd4c8", func := "annunciator/annunciatorlaw3.VarsWhere", spec := "varsWhere", inPlace := ["math.Float64bits"], apart := false, narrowed := true }
def VarsWhereUptoSaid : Prop := varsWhereUptoRow.holds Try.pinned (OpenSpec.upto varsWhereSpec)

end Rows
end Go.Proofs.Ytbceomdmpbmnkaa
