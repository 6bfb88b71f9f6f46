/-
  No cell of these rows narrows 'for every input' (looked for: loops, veiled, ifaces, maps, wideKeys, modest, calm, conditions, laid).
  DERIVED. THE GIVEN ROWS OF THIS SEAT. 4 by the template 'for every input the law returns true; each argument reads behind the call as it read before'; 0 by the template 'total and deterministic' (their statements: YtelnbodnjmldeaaGreatTotals.lean).
  GIVEN WITH THE SEED: the statements are not yours to turn. If you find one false, say at which input.
  Laid BY PROGRAM, IN A SANDBOX (cutbox-rows.mjs): the forced cells as the released guide's own fill.sh prints them over the translation 66c8d555267fbf3f… (all of the seat's roots in one cut). By AI agents, Wed Nov 11 2026. No macro, syntax, notation, axiom, sorry.
-/
import Derived.Test.YtelnbodnjmldeaaGreatChecked
import GoSem.Claim
import GoSem.ClaimJoined
import GoSem.ClaimMapViews
import Derived.JoinedTies
import Derived.KernelRfl
namespace Go.Proofs.YtelnbodnjmldeaaGreat
/- THE CELL 'sum', in the pinned program and in every row, IS THE sha256 OF THE DUMP (.gsa) THAT YtelnbodnjmldeaaGreatProg.lean LOADS. Nothing in Lean hashes anything: it is a label: what it is worth is what the hold of that sum in a sandbox is worth. -/
noncomputable def Tryz.pinned : Pinned := { name := "ytelnbodnjmldeaagreat", sum := "66c8d555267fbf3f64b7382e32a96ea4bfcb630e8e5f164f501964f0031307ba", checked := Tryz.checked }
namespace Rows
def none {H : Type} : Left H := { results := [], args := [] }

/-- 'annunciatorlaw15.ScanAll': WHATEVER THE INPUT: true; the input reads as it did. -/
def scanAllSpec : ChangeSpec := { name := "scanAll", fn := fun _ => fun
  | [d1, d2, d3] => { results := [.lit (.bool true)], args := [d1, d2, d3] }
  | _ => none }
def scanAllRow : OpenClaim := { program := "ytelnbodnjmldeaagreat", sum := "66c8d555267fbf3f64b7382e32a96ea4bfcb630e8e5f164f501964f0031307ba", func := "annunciator/annunciatorlaw15.ScanAll", spec := "scanAll", inPlace := ["math.Float64bits", "math.archTrunc", "math.Float64frombits"], unfollowed := true, recurses := true, plainKeys := false, apart := false }
def ScanAllSaid : Prop := scanAllRow.holds Tryz.pinned (OpenSpec.ofChange scanAllSpec)

/-- ITS FALSE NEIGHBOUR: 'it returns false'. Refute it at one input. -/
def scanAllWrong : ChangeSpec := { name := "scanAll", fn := fun _ => fun
  | [d1, d2, d3] => { results := [.lit (.bool false)], args := [d1, d2, d3] }
  | _ => none }
def ScanAllWrongFalsely : Prop := scanAllRow.holds Tryz.pinned (OpenSpec.ofChange scanAllWrong)

/-- 'annunciatorlaw15.ScanNew': WHATEVER THE INPUT: true; the input reads as it did. -/
def scanNewSpec : ChangeSpec := { name := "scanNew", fn := fun _ => fun
  | [d1, d2, d3] => { results := [.lit (.bool true)], args := [d1, d2, d3] }
  | _ => none }
def scanNewRow : OpenClaim := { program := "ytelnbodnjmldeaagreat", sum := "66c8d555267fbf3f64b7382e32a96ea4bfcb630e8e5f164f501964f0031307ba", func := "annunciator/annunciatorlaw15.ScanNew", spec := "scanNew", inPlace := ["math.Float64bits", "math.archTrunc", "math.Float64frombits"], unfollowed := true, recurses := true, plainKeys := false, apart := false }
def ScanNewSaid : Prop := scanNewRow.holds Tryz.pinned (OpenSpec.ofChange scanNewSpec)

/-- ITS FALSE NEIGHBOUR: 'it returns false'. Refute it at one input. -/
def scanNewWrong : ChangeSpec := { name := "scanNew", fn := fun _ => fun
  | [d1, d2, d3] => { results := [.lit (.bool false)], args := [d1, d2, d3] }
  | _ => none }
def ScanNewWrongFalsely : Prop := scanNewRow.holds Tryz.pinned (OpenSpec.ofChange scanNewWrong)

/-- 'annunciatorlaw15.ScanImage': WHATEVER THE INPUT: true; the input reads as it did. -/
def scanImageSpec : ChangeSpec := { name := "scanImage", fn := fun _ => fun
  | [d1, d2, d3] => { results := [.lit (.bool true)], args := [d1, d2, d3] }
  | _ => none }
def scanImageRow : OpenClaim := { program := "ytelnbodnjmldeaagreat", sum := "66c8d555267fbf3f64b7382e32a96ea4bfcb630e8e5f164f501964f0031307ba", func := "annunciator/annunciatorlaw15.ScanImage", spec := "scanImage", inPlace := ["math.Float64bits", "math.archTrunc", "math.Float64frombits"], unfollowed := true, recurses := true, plainKeys := false, apart := false }
def ScanImageSaid : Prop := scanImageRow.holds Tryz.pinned (OpenSpec.ofChange scanImageSpec)

/-- ITS FALSE NEIGHBOUR: 'it returns false'. Refute it at one input. -/
def scanImageWrong : ChangeSpec := { name := "scanImage", fn := fun _ => fun
  | [d1, d2, d3] => { results := [.lit (.bool false)], args := [d1, d2, d3] }
  | _ => none }
def ScanImageWrongFalsely : Prop := scanImageRow.holds Tryz.pinned (OpenSpec.ofChange scanImageWrong)

/-- 'annunciatorlaw15.ScanStill': WHATEVER THE INPUT: true; the input reads as it did. -/
def scanStillSpec : ChangeSpec := { name := "scanStill", fn := fun _ => fun
  | [d1, d2, d3, d4] => { results := [.lit (.bool true)], args := [d1, d2, d3, d4] }
  | _ => none }
def scanStillRow : OpenClaim := { program := "ytelnbodnjmldeaagreat", sum := "66c8d555267fbf3f64b7382e32a96ea4bfcb630e8e5f164f501964f0031307ba", func := "annunciator/annunciatorlaw15.ScanStill", spec := "scanStill", inPlace := ["math.Float64bits", "math.archTrunc", "math.Float64frombits"], unfollowed := true, recurses := true, plainKeys := false, apart := false }
def ScanStillSaid : Prop := scanStillRow.holds Tryz.pinned (OpenSpec.ofChange scanStillSpec)

/-- ITS FALSE NEIGHBOUR: 'it returns false'. Refute it at one input. -/
def scanStillWrong : ChangeSpec := { name := "scanStill", fn := fun _ => fun
  | [d1, d2, d3, d4] => { results := [.lit (.bool false)], args := [d1, d2, d3, d4] }
  | _ => none }
def ScanStillWrongFalsely : Prop := scanStillRow.holds Tryz.pinned (OpenSpec.ofChange scanStillWrong)

/- THE SECOND FORM. 'bulk': how many values and letters a reading holds, each counted each time it is reached (what is shared counts as often as it is met; a slice's spare places count too). A statement '..UptoSaid' is the law's where the arguments, and the package variables that the reading takes, are together of bulk at most 1048576: NARROWER than '..Said'. Prove '..Said' where nothing that the law and all that it calls make is longer than what came in: it says more and counts as full. Else prove '..UptoSaid'. A law counts once. -/
mutual
def uptoBulk {H : Type} : DataW H → Nat
  | .lit (.string bytes) => bytes.length + 1
  | .lit _ => 1
  | .nil => 1
  | .ptr d => uptoBulk d + 1
  | .slice elems spare => uptoBulkAll elems + uptoBulkAll spare + 1
  | .agg parts => uptoBulkAll parts + 1
  | .iface _ d => uptoBulk d + 1
  | .map entries => uptoBulkEntries entries + 1
  | .held _ => 1
def uptoBulkAll {H : Type} : List (DataW H) → Nat
  | [] => 0
  | d :: r => uptoBulk d + uptoBulkAll r
def uptoBulkEntries {H : Type} : List (Lit × DataW H) → Nat
  | [] => 0
  | x :: r => uptoBulkEntry x + uptoBulkEntries r
def uptoBulkEntry {H : Type} : Lit × DataW H → Nat
  | (.string bytes, d) => bytes.length + uptoBulk d + 1
  | (_, d) => uptoBulk d + 1
 end
def uptoSmall : (H : Type) → List (DataW H) → Bool := fun _ ds => decide (uptoBulkAll ds ≤ 1048576)
def OpenSpec.upto (s : _root_.Go.ChangeSpec) : _root_.Go.OpenSpec := { _root_.Go.OpenSpec.ofChange s with cond := some uptoSmall }

/-- 'annunciatorlaw15.ScanAll', WHERE WHAT IT READS IS OF BULK AT MOST 1048576: true; the input reads as it did. -/
def scanAllUptoRow : OpenClaim := { program := "ytelnbodnjmldeaagreat", sum := "66c8d555267fbf3f64b7382e32a96ea4bfcb630e8e5f164f501964f0031307ba", func := "annunciator/annunciatorlaw15.ScanAll", spec := "scanAll", inPlace := ["math.Float64bits", "math.archTrunc", "math.Float64frombits"], unfollowed := true, recurses := true, plainKeys := false, apart := false, narrowed := true }
def ScanAllUptoSaid : Prop := scanAllUptoRow.holds Tryz.pinned (OpenSpec.upto scanAllSpec)

/-- 'annunciatorlaw15.ScanNew', WHERE WHAT IT READS IS OF BULK AT MOST 1048576: true; the input reads as it did. -/
def scanNewUptoRow : OpenClaim := { program := "ytelnbodnjmldeaagreat", sum := "66c8d555267fbf3f64b7382e32a96ea4bfcb630e8e5f164f501964f0031307ba", func := "annunciator/annunciatorlaw15.ScanNew", spec := "scanNew", inPlace := ["math.Float64bits", "math.archTrunc", "math.Float64frombits"], unfollowed := true, recurses := true, plainKeys := false, apart := false, narrowed := true }
def ScanNewUptoSaid : Prop := scanNewUptoRow.holds Tryz.pinned (OpenSpec.upto scanNewSpec)

/-- 'annunciatorlaw15.ScanImage', WHERE WHAT IT READS IS OF BULK AT MOST 1048576: true; the input reads as it did. -/
def scanImageUptoRow : OpenClaim := { program := "ytelnbodnjmldeaagreat", sum := "66c8d555267fbf3f64b7382e32a96ea4bfcb630e8e5f164f501964f0031307ba", func := "annunciator/annunciatorlaw15.ScanImage", spec := "scanImage", inPlace := ["math.Float64bits", "math.archTrunc", "math.Float64frombits"], unfollowed := true, recurses := true, plainKeys := false, apart := false, narrowed := true }
def ScanImageUptoSaid : Prop := scanImageUptoRow.holds Tryz.pinned (OpenSpec.upto scanImageSpec)

/-- 'annunciatorlaw15.ScanStill', WHERE WHAT IT READS IS OF BULK AT MOST 1048576: true; the input reads as it did. -/
def scanStillUptoRow : OpenClaim := { program := "ytelnbodnjmldeaagreat", sum := "66c8d555267fbf3f64b7382e32a96ea4bfcb630e8e5f164f501964f0031307ba", func := "annunciator/annunciatorlaw15.ScanStill", spec := "scanStill", inPlace := ["math.Float64bits", "math.archTrunc", "math.Float64frombits"], unfollowed := true, recurses := true, plainKeys := false, apart := false, narrowed := true }
def ScanStillUptoSaid : Prop := scanStillUptoRow.holds Tryz.pinned (OpenSpec.upto scanStillSpec)

end Rows
end Go.Proofs.YtelnbodnjmldeaaGreat
