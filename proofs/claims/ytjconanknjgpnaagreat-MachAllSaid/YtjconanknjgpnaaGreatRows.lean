/-
  No cell of these rows narrows 'for every input' (looked for: loops, veiled, ifaces, maps, wideKeys, modest, calm, conditions, laid).
  DERIVED. THE GIVEN ROWS OF THIS SEAT. 9 by the template 'for every input the law returns true; each argument reads behind the call as it read before'; 0 by the template 'total and deterministic' (their statements: YtjconanknjgpnaaGreatTotals.lean).
  GIVEN WITH THE SEED: the statements are not yours to turn. If you find one false, say at which input.
  Laid BY PROGRAM, IN A SANDBOX (cutbox-rows.mjs): the forced cells as the released guide's own fill.sh prints them over the translation 7273b76b3ccd71d1… (all of the seat's roots in one cut). By AI agents, Wed Nov 11 2026. No macro, syntax, notation, axiom, sorry.
-/
import Derived.Test.YtjconanknjgpnaaGreatChecked
import GoSem.Claim
import GoSem.ClaimJoined
import GoSem.ClaimMapViews
import Derived.JoinedTies
import Derived.KernelRfl
namespace Go.Proofs.YtjconanknjgpnaaGreat
/- THE CELL 'sum', in the pinned program and in every row, IS THE sha256 OF THE DUMP (.gsa) THAT YtjconanknjgpnaaGreatProg.lean LOADS. Nothing in Lean hashes anything: it is a label: what it is worth is what the hold of that sum in a sandbox is worth. -/
noncomputable def Tryz.pinned : Pinned := { name := "ytjconanknjgpnaagreat", sum := "7273b76b3ccd71d11d7d5238a37c28619cb27433fd13577b3757c4df5a909a4e", checked := Tryz.checked }
namespace Rows
def none {H : Type} : Left H := { results := [], args := [] }

/-- 'annunciatorlaw10.FlowAll': WHATEVER THE INPUT: true; the input reads as it did. -/
def flowAllSpec : ChangeSpec := { name := "flowAll", fn := fun _ => fun
  | [d1, d2, d3, d4] => { results := [.lit (.bool true)], args := [d1, d2, d3, d4] }
  | _ => none }
def flowAllRow : OpenClaim := { program := "ytjconanknjgpnaagreat", sum := "7273b76b3ccd71d11d7d5238a37c28619cb27433fd13577b3757c4df5a909a4e", func := "annunciator/annunciatorlaw10.FlowAll", spec := "flowAll", inPlace := ["math.Float64bits", "math.archTrunc", "math.Float64frombits"], unfollowed := true, recurses := true, apart := false }
def FlowAllSaid : Prop := flowAllRow.holds Tryz.pinned (OpenSpec.ofChange flowAllSpec)

/-- ITS FALSE NEIGHBOUR: 'it returns false'. Refute it at one input. -/
def flowAllWrong : ChangeSpec := { name := "flowAll", fn := fun _ => fun
  | [d1, d2, d3, d4] => { results := [.lit (.bool false)], args := [d1, d2, d3, d4] }
  | _ => none }
def FlowAllWrongFalsely : Prop := flowAllRow.holds Tryz.pinned (OpenSpec.ofChange flowAllWrong)

/-- 'annunciatorlaw10.FlowEval': WHATEVER THE INPUT: true; the input reads as it did. -/
def flowEvalSpec : ChangeSpec := { name := "flowEval", fn := fun _ => fun
  | [d1, d2, d3] => { results := [.lit (.bool true)], args := [d1, d2, d3] }
  | _ => none }
def flowEvalRow : OpenClaim := { program := "ytjconanknjgpnaagreat", sum := "7273b76b3ccd71d11d7d5238a37c28619cb27433fd13577b3757c4df5a909a4e", func := "annunciator/annunciatorlaw10.FlowEval", spec := "flowEval", inPlace := ["math.Float64bits", "math.archTrunc", "math.Float64frombits"], unfollowed := true, recurses := true, apart := false }
def FlowEvalSaid : Prop := flowEvalRow.holds Tryz.pinned (OpenSpec.ofChange flowEvalSpec)

/-- ITS FALSE NEIGHBOUR: 'it returns false'. Refute it at one input. -/
def flowEvalWrong : ChangeSpec := { name := "flowEval", fn := fun _ => fun
  | [d1, d2, d3] => { results := [.lit (.bool false)], args := [d1, d2, d3] }
  | _ => none }
def FlowEvalWrongFalsely : Prop := flowEvalRow.holds Tryz.pinned (OpenSpec.ofChange flowEvalWrong)

/-- 'annunciatorlaw10.FlowKinds': WHATEVER THE INPUT: true; the input reads as it did. -/
def flowKindsSpec : ChangeSpec := { name := "flowKinds", fn := fun _ => fun
  | [d1, d2, d3] => { results := [.lit (.bool true)], args := [d1, d2, d3] }
  | _ => none }
def flowKindsRow : OpenClaim := { program := "ytjconanknjgpnaagreat", sum := "7273b76b3ccd71d11d7d5238a37c28619cb27433fd13577b3757c4df5a909a4e", func := "annunciator/annunciatorlaw10.FlowKinds", spec := "flowKinds", inPlace := ["math.Float64bits", "math.archTrunc", "math.Float64frombits"], unfollowed := true, recurses := true, apart := false }
def FlowKindsSaid : Prop := flowKindsRow.holds Tryz.pinned (OpenSpec.ofChange flowKindsSpec)

/-- ITS FALSE NEIGHBOUR: 'it returns false'. Refute it at one input. -/
def flowKindsWrong : ChangeSpec := { name := "flowKinds", fn := fun _ => fun
  | [d1, d2, d3] => { results := [.lit (.bool false)], args := [d1, d2, d3] }
  | _ => none }
def FlowKindsWrongFalsely : Prop := flowKindsRow.holds Tryz.pinned (OpenSpec.ofChange flowKindsWrong)

/-- 'annunciatorlaw10.FlowParts': WHATEVER THE INPUT: true; the input reads as it did. -/
def flowPartsSpec : ChangeSpec := { name := "flowParts", fn := fun _ => fun
  | [d1, d2, d3] => { results := [.lit (.bool true)], args := [d1, d2, d3] }
  | _ => none }
def flowPartsRow : OpenClaim := { program := "ytjconanknjgpnaagreat", sum := "7273b76b3ccd71d11d7d5238a37c28619cb27433fd13577b3757c4df5a909a4e", func := "annunciator/annunciatorlaw10.FlowParts", spec := "flowParts", inPlace := ["math.Float64bits", "math.archTrunc", "math.Float64frombits"], unfollowed := true, recurses := true, apart := false }
def FlowPartsSaid : Prop := flowPartsRow.holds Tryz.pinned (OpenSpec.ofChange flowPartsSpec)

/-- ITS FALSE NEIGHBOUR: 'it returns false'. Refute it at one input. -/
def flowPartsWrong : ChangeSpec := { name := "flowParts", fn := fun _ => fun
  | [d1, d2, d3] => { results := [.lit (.bool false)], args := [d1, d2, d3] }
  | _ => none }
def FlowPartsWrongFalsely : Prop := flowPartsRow.holds Tryz.pinned (OpenSpec.ofChange flowPartsWrong)

/-- 'annunciatorlaw10.FlowNow': WHATEVER THE INPUT: true; the input reads as it did. -/
def flowNowSpec : ChangeSpec := { name := "flowNow", fn := fun _ => fun
  | [d1, d2, d3, d4] => { results := [.lit (.bool true)], args := [d1, d2, d3, d4] }
  | _ => none }
def flowNowRow : OpenClaim := { program := "ytjconanknjgpnaagreat", sum := "7273b76b3ccd71d11d7d5238a37c28619cb27433fd13577b3757c4df5a909a4e", func := "annunciator/annunciatorlaw10.FlowNow", spec := "flowNow", inPlace := ["math.Float64bits", "math.archTrunc", "math.Float64frombits"], unfollowed := true, recurses := true, apart := false }
def FlowNowSaid : Prop := flowNowRow.holds Tryz.pinned (OpenSpec.ofChange flowNowSpec)

/-- ITS FALSE NEIGHBOUR: 'it returns false'. Refute it at one input. -/
def flowNowWrong : ChangeSpec := { name := "flowNow", fn := fun _ => fun
  | [d1, d2, d3, d4] => { results := [.lit (.bool false)], args := [d1, d2, d3, d4] }
  | _ => none }
def FlowNowWrongFalsely : Prop := flowNowRow.holds Tryz.pinned (OpenSpec.ofChange flowNowWrong)

/-- 'annunciatorlaw14.MachAll': WHATEVER THE INPUT: true; the input reads as it did. -/
def machAllSpec : ChangeSpec := { name := "machAll", fn := fun _ => fun
  | [d1, d2, d3] => { results := [.lit (.bool true)], args := [d1, d2, d3] }
  | _ => none }
def machAllRow : OpenClaim := { program := "ytjconanknjgpnaagreat", sum := "7273b76b3ccd71d11d7d5238a37c28619cb27433fd13577b3757c4df5a909a4e", func := "annunciator/annunciatorlaw14.MachAll", spec := "machAll", inPlace := ["math.archTrunc", "math.Float64bits", "math.Float64frombits"], unfollowed := true, recurses := true, apart := false }
def MachAllSaid : Prop := machAllRow.holds Tryz.pinned (OpenSpec.ofChange machAllSpec)

/-- ITS FALSE NEIGHBOUR: 'it returns false'. Refute it at one input. -/
def machAllWrong : ChangeSpec := { name := "machAll", fn := fun _ => fun
  | [d1, d2, d3] => { results := [.lit (.bool false)], args := [d1, d2, d3] }
  | _ => none }
def MachAllWrongFalsely : Prop := machAllRow.holds Tryz.pinned (OpenSpec.ofChange machAllWrong)

/-- 'annunciatorlaw14.MachFlow': WHATEVER THE INPUT: true; the input reads as it did. -/
def machFlowSpec : ChangeSpec := { name := "machFlow", fn := fun _ => fun
  | [d1, d2, d3, d4] => { results := [.lit (.bool true)], args := [d1, d2, d3, d4] }
  | _ => none }
def machFlowRow : OpenClaim := { program := "ytjconanknjgpnaagreat", sum := "7273b76b3ccd71d11d7d5238a37c28619cb27433fd13577b3757c4df5a909a4e", func := "annunciator/annunciatorlaw14.MachFlow", spec := "machFlow", inPlace := ["math.archTrunc", "math.Float64bits", "math.Float64frombits"], unfollowed := true, recurses := true, apart := false }
def MachFlowSaid : Prop := machFlowRow.holds Tryz.pinned (OpenSpec.ofChange machFlowSpec)

/-- ITS FALSE NEIGHBOUR: 'it returns false'. Refute it at one input. -/
def machFlowWrong : ChangeSpec := { name := "machFlow", fn := fun _ => fun
  | [d1, d2, d3, d4] => { results := [.lit (.bool false)], args := [d1, d2, d3, d4] }
  | _ => none }
def MachFlowWrongFalsely : Prop := machFlowRow.holds Tryz.pinned (OpenSpec.ofChange machFlowWrong)

/-- 'annunciatorlaw14.MachParts': WHATEVER THE INPUT: true; the input reads as it did. -/
def machPartsSpec : ChangeSpec := { name := "machParts", fn := fun _ => fun
  | [d1, d2, d3, d4] => { results := [.lit (.bool true)], args := [d1, d2, d3, d4] }
  | _ => none }
def machPartsRow : OpenClaim := { program := "ytjconanknjgpnaagreat", sum := "7273b76b3ccd71d11d7d5238a37c28619cb27433fd13577b3757c4df5a909a4e", func := "annunciator/annunciatorlaw14.MachParts", spec := "machParts", inPlace := ["math.archTrunc", "math.Float64bits", "math.Float64frombits"], unfollowed := true, recurses := true, apart := false }
def MachPartsSaid : Prop := machPartsRow.holds Tryz.pinned (OpenSpec.ofChange machPartsSpec)

/-- ITS FALSE NEIGHBOUR: 'it returns false'. Refute it at one input. -/
def machPartsWrong : ChangeSpec := { name := "machParts", fn := fun _ => fun
  | [d1, d2, d3, d4] => { results := [.lit (.bool false)], args := [d1, d2, d3, d4] }
  | _ => none }
def MachPartsWrongFalsely : Prop := machPartsRow.holds Tryz.pinned (OpenSpec.ofChange machPartsWrong)

/-- 'annunciatorlaw14.MachWrong': WHATEVER THE INPUT: true; the input reads as it did. -/
def machWrongSpec : ChangeSpec := { name := "machWrong", fn := fun _ => fun
  | [d1, d2] => { results := [.lit (.bool true)], args := [d1, d2] }
  | _ => none }
def machWrongRow : OpenClaim := { program := "ytjconanknjgpnaagreat", sum := "7273b76b3ccd71d11d7d5238a37c28619cb27433fd13577b3757c4df5a909a4e", func := "annunciator/annunciatorlaw14.MachWrong", spec := "machWrong", inPlace := ["math.archTrunc", "math.Float64bits", "math.Float64frombits"], unfollowed := true, recurses := true, apart := false }
def MachWrongSaid : Prop := machWrongRow.holds Tryz.pinned (OpenSpec.ofChange machWrongSpec)

/-- ITS FALSE NEIGHBOUR: 'it returns false'. Refute it at one input. -/
def machWrongWrong : ChangeSpec := { name := "machWrong", fn := fun _ => fun
  | [d1, d2] => { results := [.lit (.bool false)], args := [d1, d2] }
  | _ => none }
def MachWrongWrongFalsely : Prop := machWrongRow.holds Tryz.pinned (OpenSpec.ofChange machWrongWrong)

/- THE SECOND FORM. 'bulk': how many values and letters a reading holds, each counted each time it is reached (what is shared counts as often as it is met; a slice's spare places count too). A statement '..UptoSaid' is the law's where the arguments, and the package variables that the reading takes, are together of bulk at most 1048576: NARROWER than '..Said'. Prove '..Said' where nothing that the law and all that it calls make is longer than what came in: it says more and counts as full. Else prove '..UptoSaid'. A law counts once. -/
mutual
def uptoBulk {H : Type} : DataW H → Nat
  | .lit (.string bytes) => bytes.length + 1
  | .lit _ => 1
  | .nil => 1
  | .ptr d => uptoBulk d + 1
  | .slice elems spare => uptoBulkAll elems + uptoBulkAll spare + 1
  | .agg parts => uptoBulkAll parts + 1
  | .iface _ d => uptoBulk d + 1
  | .map entries => uptoBulkEntries entries + 1
  | .held _ => 1
def uptoBulkAll {H : Type} : List (DataW H) → Nat
  | [] => 0
  | d :: r => uptoBulk d + uptoBulkAll r
def uptoBulkEntries {H : Type} : List (Lit × DataW H) → Nat
  | [] => 0
  | x :: r => uptoBulkEntry x + uptoBulkEntries r
def uptoBulkEntry {H : Type} : Lit × DataW H → Nat
  | (.string bytes, d) => bytes.length + uptoBulk d + 1
  | (_, d) => uptoBulk d + 1
 end
def uptoSmall : (H : Type) → List (DataW H) → Bool := fun _ ds => decide (uptoBulkAll ds ≤ 1048576)
def OpenSpec.upto (s : _root_.Go.ChangeSpec) : _root_.Go.OpenSpec := { _root_.Go.OpenSpec.ofChange s with cond := some uptoSmall }

/-- 'annunciatorlaw10.FlowAll', WHERE WHAT IT READS IS OF BULK AT MOST 1048576: true; the input reads as it did. -/
def flowAllUptoRow : OpenClaim := { program := "ytjconanknjgpnaagreat", sum := "7273b76b3ccd71d11d7d5238a37c28619cb27433fd13577b3757c4df5a909a4e", func := "annunciator/annunciatorlaw10.FlowAll", spec := "flowAll", inPlace := ["math.Float64bits", "math.archTrunc", "math.Float64frombits"], unfollowed := true, recurses := true, apart := false, narrowed := true }
def FlowAllUptoSaid : Prop := flowAllUptoRow.holds Tryz.pinned (OpenSpec.upto flowAllSpec)

/-- 'annunciatorlaw10.FlowEval', WHERE WHAT IT READS IS OF BULK AT MOST 1048576: true; the input reads as it did. -/
def flowEvalUptoRow : OpenClaim := { program := "ytjconanknjgpnaagreat", sum := "7273b76b3ccd71d11d7d5238a37c28619cb27433fd13577b3757c4df5a909a4e", func := "annunciator/annunciatorlaw10.FlowEval", spec := "flowEval", inPlace := ["math.Float64bits", "math.archTrunc", "math.Float64frombits"], unfollowed := true, recurses := true, apart := false, narrowed := true }
def FlowEvalUptoSaid : Prop := flowEvalUptoRow.holds Tryz.pinned (OpenSpec.upto flowEvalSpec)

/-- 'annunciatorlaw10.FlowKinds', WHERE WHAT IT READS IS OF BULK AT MOST 1048576: true; the input reads as it did. -/
def flowKindsUptoRow : OpenClaim := { program := "ytjconanknjgpnaagreat", sum := "7273b76b3ccd71d11d7d5238a37c28619cb27433fd13577b3757c4df5a909a4e", func := "annunciator/annunciatorlaw10.FlowKinds", spec := "flowKinds", inPlace := ["math.Float64bits", "math.archTrunc", "math.Float64frombits"], unfollowed := true, recurses := true, apart := false, narrowed := true }
def FlowKindsUptoSaid : Prop := flowKindsUptoRow.holds Tryz.pinned (OpenSpec.upto flowKindsSpec)

/-- 'annunciatorlaw10.FlowParts', WHERE WHAT IT READS IS OF BULK AT MOST 1048576: true; the input reads as it did. -/
def flowPartsUptoRow : OpenClaim := { program := "ytjconanknjgpnaagreat", sum := "7273b76b3ccd71d11d7d5238a37c28619cb27433fd13577b3757c4df5a909a4e", func := "annunciator/annunciatorlaw10.FlowParts", spec := "flowParts", inPlace := ["math.Float64bits", "math.archTrunc", "math.Float64frombits"], unfollowed := true, recurses := true, apart := false, narrowed := true }
def FlowPartsUptoSaid : Prop := flowPartsUptoRow.holds Tryz.pinned (OpenSpec.upto flowPartsSpec)

/-- 'annunciatorlaw10.FlowNow', WHERE WHAT IT READS IS OF BULK AT MOST 1048576: true; the input reads as it did. -/
def flowNowUptoRow : OpenClaim := { program := "ytjconanknjgpnaagreat", sum := "7273b76b3ccd71d11d7d5238a37c28619cb27433fd13577b3757c4df5a909a4e", func := "annunciator/annunciatorlaw10.FlowNow", spec := "flowNow", inPlace := ["math.Float64bits", "math.archTrunc", "math.Float64frombits"], unfollowed := true, recurses := true, apart := false, narrowed := true }
def FlowNowUptoSaid : Prop := flowNowUptoRow.holds Tryz.pinned (OpenSpec.upto flowNowSpec)

/-- 'annunciatorlaw14.MachAll', WHERE WHAT IT READS IS OF BULK AT MOST 1048576: true; the input reads as it did. -/
def machAllUptoRow : OpenClaim := { program := "ytjconanknjgpnaagreat", sum := "7273b76b3ccd71d11d7d5238a37c28619cb27433fd13577b3757c4df5a909a4e", func := "annunciator/annunciatorlaw14.MachAll", spec := "machAll", inPlace := ["math.archTrunc", "math.Float64bits", "math.Float64frombits"], unfollowed := true, recurses := true, apart := false, narrowed := true }
def MachAllUptoSaid : Prop := machAllUptoRow.holds Tryz.pinned (OpenSpec.upto machAllSpec)

/-- 'annunciatorlaw14.MachFlow', WHERE WHAT IT READS IS OF BULK AT MOST 1048576: true; the input reads as it did. -/
def machFlowUptoRow : OpenClaim := { program := "ytjconanknjgpnaagreat", sum := "7273b76b3ccd71d11d7d5238a37c28619cb27433fd13577b3757c4df5a909a4e", func := "annunciator/annunciatorlaw14.MachFlow", spec := "machFlow", inPlace := ["math.archTrunc", "math.Float64bits", "math.Float64frombits"], unfollowed := true, recurses := true, apart := false, narrowed := true }
def MachFlowUptoSaid : Prop := machFlowUptoRow.holds Tryz.pinned (OpenSpec.upto machFlowSpec)

/-- 'annunciatorlaw14.MachParts', WHERE WHAT IT READS IS OF BULK AT MOST 1048576: true; the input reads as it did. -/
def machPartsUptoRow : OpenClaim := { program := "ytjconanknjgpnaagreat", sum := "7273b76b3ccd71d11d7d5238a37c28619cb27433fd13577b3757c4df5a909a4e", func := "annunciator/annunciatorlaw14.MachParts", spec := "machParts", inPlace := ["math.archTrunc", "math.Float64bits", "math.Float64frombits"], unfollowed := true, recurses := true, apart := false, narrowed := true }
def MachPartsUptoSaid : Prop := machPartsUptoRow.holds Tryz.pinned (OpenSpec.upto machPartsSpec)

/-- 'annunciatorlaw14.MachWrong', WHERE WHAT IT READS IS OF BULK AT MOST 1048576: true; the input reads as it did. -/
def machWrongUptoRow : OpenClaim := { program := "ytjconanknjgpnaagreat", sum := "7273b76b3ccd71d11d7d5238a37c28619cb27433fd13577b3757c4df5a909a4e", func := "annunciator/annunciatorlaw14.MachWrong", spec := "machWrong", inPlace := ["math.archTrunc", "math.Float64bits", "math.Float64frombits"], unfollowed := true, recurses := true, apart := false, narrowed := true }
def MachWrongUptoSaid : Prop := machWrongUptoRow.holds Tryz.pinned (OpenSpec.upto machWrongSpec)

end Rows
end Go.Proofs.YtjconanknjgpnaaGreat
