/-
  No cell of these rows narrows 'for every input' (looked for: loops, veiled, ifaces, maps, wideKeys, modest, calm, conditions, laid).
  DERIVED. THE GIVEN ROWS OF THIS SEAT. 9 by the template 'for every input the law returns true; each argument reads behind the call as it read before'; 0 by the template 'total and deterministic' (their statements: YtofklpmlgfbmlaaGreatTotals.lean).
  GIVEN WITH THE SEED: the statements are not yours to turn. If you find one false, say at which input.
  Laid BY PROGRAM, IN A SANDBOX (cutbox-rows.mjs): the forced cells as the released guide's own fill.sh prints them over the translation 0c879ddca78909af… (all of the seat's roots in one cut). By AI agents, Wed Nov 11 2026. No macro, syntax, notation, axiom, sorry.
-/
import Derived.Test.YtofklpmlgfbmlaaGreatChecked
import GoSem.Claim
import GoSem.ClaimJoined
import GoSem.ClaimMapViews
import Derived.JoinedTies
import Derived.KernelRfl
namespace Go.Proofs.YtofklpmlgfbmlaaGreat
/- THE CELL 'sum', in the pinned program and in every row, IS THE sha256 OF THE DUMP (.gsa) THAT YtofklpmlgfbmlaaGreatProg.lean LOADS. Nothing in Lean hashes anything: it is a label: what it is worth is what the hold of that sum in a sandbox is worth. -/
noncomputable def Tryz.pinned : Pinned := { name := "ytofklpmlgfbmlaagreat", sum := "0c879ddca78909af266662f525153e59750b3c16aee6165e05ea2a8e3677b3f6", checked := Tryz.checked }
namespace Rows
def none {H : Type} : Left H := { results := [], args := [] }

/-- 'zelligelaw09.CircumSmall': WHATEVER THE INPUT: true; the input reads as it did. -/
def circumSmallSpec : ChangeSpec := { name := "circumSmall", fn := fun _ => fun
  | [d1, d2] => { results := [.lit (.bool true)], args := [d1, d2] }
  | _ => none }
def circumSmallRow : OpenClaim := { program := "ytofklpmlgfbmlaagreat", sum := "0c879ddca78909af266662f525153e59750b3c16aee6165e05ea2a8e3677b3f6", func := "zellige/zelligelaw09.CircumSmall", spec := "circumSmall", inPlace := ["math/bits.Sub64", "math/bits.Add64"], apart := false }
def CircumSmallSaid : Prop := circumSmallRow.holds Tryz.pinned (OpenSpec.ofChange circumSmallSpec)

/-- ITS FALSE NEIGHBOUR: 'it returns false'. Refute it at one input. -/
def circumSmallWrong : ChangeSpec := { name := "circumSmall", fn := fun _ => fun
  | [d1, d2] => { results := [.lit (.bool false)], args := [d1, d2] }
  | _ => none }
def CircumSmallWrongFalsely : Prop := circumSmallRow.holds Tryz.pinned (OpenSpec.ofChange circumSmallWrong)

/-- 'zelligelaw09.CircumCenters': WHATEVER THE INPUT: true; the input reads as it did. -/
def circumCentersSpec : ChangeSpec := { name := "circumCenters", fn := fun _ => fun
  | [d1, d2, d3] => { results := [.lit (.bool true)], args := [d1, d2, d3] }
  | _ => none }
def circumCentersRow : OpenClaim := { program := "ytofklpmlgfbmlaagreat", sum := "0c879ddca78909af266662f525153e59750b3c16aee6165e05ea2a8e3677b3f6", func := "zellige/zelligelaw09.CircumCenters", spec := "circumCenters", inPlace := ["math/bits.Sub64", "math/bits.Add64"], apart := false }
def CircumCentersSaid : Prop := circumCentersRow.holds Tryz.pinned (OpenSpec.ofChange circumCentersSpec)

/-- ITS FALSE NEIGHBOUR: 'it returns false'. Refute it at one input. -/
def circumCentersWrong : ChangeSpec := { name := "circumCenters", fn := fun _ => fun
  | [d1, d2, d3] => { results := [.lit (.bool false)], args := [d1, d2, d3] }
  | _ => none }
def CircumCentersWrongFalsely : Prop := circumCentersRow.holds Tryz.pinned (OpenSpec.ofChange circumCentersWrong)

/-- 'zelligelaw09.CircumRadii': WHATEVER THE INPUT: true; the input reads as it did. -/
def circumRadiiSpec : ChangeSpec := { name := "circumRadii", fn := fun _ => fun
  | [d1, d2, d3] => { results := [.lit (.bool true)], args := [d1, d2, d3] }
  | _ => none }
def circumRadiiRow : OpenClaim := { program := "ytofklpmlgfbmlaagreat", sum := "0c879ddca78909af266662f525153e59750b3c16aee6165e05ea2a8e3677b3f6", func := "zellige/zelligelaw09.CircumRadii", spec := "circumRadii", inPlace := ["math/bits.Sub64", "math/bits.Add64"], apart := false }
def CircumRadiiSaid : Prop := circumRadiiRow.holds Tryz.pinned (OpenSpec.ofChange circumRadiiSpec)

/-- ITS FALSE NEIGHBOUR: 'it returns false'. Refute it at one input. -/
def circumRadiiWrong : ChangeSpec := { name := "circumRadii", fn := fun _ => fun
  | [d1, d2, d3] => { results := [.lit (.bool false)], args := [d1, d2, d3] }
  | _ => none }
def CircumRadiiWrongFalsely : Prop := circumRadiiRow.holds Tryz.pinned (OpenSpec.ofChange circumRadiiWrong)

/-- 'zelligelaw09.CircumMoves': WHATEVER THE INPUT: true; the input reads as it did. -/
def circumMovesSpec : ChangeSpec := { name := "circumMoves", fn := fun _ => fun
  | [d1, d2] => { results := [.lit (.bool true)], args := [d1, d2] }
  | _ => none }
def circumMovesRow : OpenClaim := { program := "ytofklpmlgfbmlaagreat", sum := "0c879ddca78909af266662f525153e59750b3c16aee6165e05ea2a8e3677b3f6", func := "zellige/zelligelaw09.CircumMoves", spec := "circumMoves", inPlace := ["math/bits.Sub64", "math/bits.Add64"], apart := false }
def CircumMovesSaid : Prop := circumMovesRow.holds Tryz.pinned (OpenSpec.ofChange circumMovesSpec)

/-- ITS FALSE NEIGHBOUR: 'it returns false'. Refute it at one input. -/
def circumMovesWrong : ChangeSpec := { name := "circumMoves", fn := fun _ => fun
  | [d1, d2] => { results := [.lit (.bool false)], args := [d1, d2] }
  | _ => none }
def CircumMovesWrongFalsely : Prop := circumMovesRow.holds Tryz.pinned (OpenSpec.ofChange circumMovesWrong)

/-- 'zelligelaw35.QualityShapes': WHATEVER THE INPUT: true; the input reads as it did. -/
def qualityShapesSpec : ChangeSpec := { name := "qualityShapes", fn := fun _ => fun
  | [d1, d2, d3] => { results := [.lit (.bool true)], args := [d1, d2, d3] }
  | _ => none }
def qualityShapesRow : OpenClaim := { program := "ytofklpmlgfbmlaagreat", sum := "0c879ddca78909af266662f525153e59750b3c16aee6165e05ea2a8e3677b3f6", func := "zellige/zelligelaw35.QualityShapes", spec := "qualityShapes", inPlace := ["math/bits.Sub64", "math/bits.Add64"], unfollowed := true, recurses := true, apart := false }
def QualityShapesSaid : Prop := qualityShapesRow.holds Tryz.pinned (OpenSpec.ofChange qualityShapesSpec)

/-- ITS FALSE NEIGHBOUR: 'it returns false'. Refute it at one input. -/
def qualityShapesWrong : ChangeSpec := { name := "qualityShapes", fn := fun _ => fun
  | [d1, d2, d3] => { results := [.lit (.bool false)], args := [d1, d2, d3] }
  | _ => none }
def QualityShapesWrongFalsely : Prop := qualityShapesRow.holds Tryz.pinned (OpenSpec.ofChange qualityShapesWrong)

/-- 'zelligelaw35.QualityAlike': WHATEVER THE INPUT: true; the input reads as it did. -/
def qualityAlikeSpec : ChangeSpec := { name := "qualityAlike", fn := fun _ => fun
  | [d1, d2] => { results := [.lit (.bool true)], args := [d1, d2] }
  | _ => none }
def qualityAlikeRow : OpenClaim := { program := "ytofklpmlgfbmlaagreat", sum := "0c879ddca78909af266662f525153e59750b3c16aee6165e05ea2a8e3677b3f6", func := "zellige/zelligelaw35.QualityAlike", spec := "qualityAlike", inPlace := ["math/bits.Sub64", "math/bits.Add64"], unfollowed := true, recurses := true, apart := false }
def QualityAlikeSaid : Prop := qualityAlikeRow.holds Tryz.pinned (OpenSpec.ofChange qualityAlikeSpec)

/-- ITS FALSE NEIGHBOUR: 'it returns false'. Refute it at one input. -/
def qualityAlikeWrong : ChangeSpec := { name := "qualityAlike", fn := fun _ => fun
  | [d1, d2] => { results := [.lit (.bool false)], args := [d1, d2] }
  | _ => none }
def QualityAlikeWrongFalsely : Prop := qualityAlikeRow.holds Tryz.pinned (OpenSpec.ofChange qualityAlikeWrong)

/-- 'zelligelaw35.QualitySlims': WHATEVER THE INPUT: true; the input reads as it did. -/
def qualitySlimsSpec : ChangeSpec := { name := "qualitySlims", fn := fun _ => fun
  | [d1, d2, d3] => { results := [.lit (.bool true)], args := [d1, d2, d3] }
  | _ => none }
def qualitySlimsRow : OpenClaim := { program := "ytofklpmlgfbmlaagreat", sum := "0c879ddca78909af266662f525153e59750b3c16aee6165e05ea2a8e3677b3f6", func := "zellige/zelligelaw35.QualitySlims", spec := "qualitySlims", inPlace := ["math/bits.Sub64", "math/bits.Add64"], unfollowed := true, recurses := true, apart := false }
def QualitySlimsSaid : Prop := qualitySlimsRow.holds Tryz.pinned (OpenSpec.ofChange qualitySlimsSpec)

/-- ITS FALSE NEIGHBOUR: 'it returns false'. Refute it at one input. -/
def qualitySlimsWrong : ChangeSpec := { name := "qualitySlims", fn := fun _ => fun
  | [d1, d2, d3] => { results := [.lit (.bool false)], args := [d1, d2, d3] }
  | _ => none }
def QualitySlimsWrongFalsely : Prop := qualitySlimsRow.holds Tryz.pinned (OpenSpec.ofChange qualitySlimsWrong)

/-- 'zelligelaw35.QualityQuarter': WHATEVER THE INPUT: true; the input reads as it did. -/
def qualityQuarterSpec : ChangeSpec := { name := "qualityQuarter", fn := fun _ => fun
  | [d1, d2, d3] => { results := [.lit (.bool true)], args := [d1, d2, d3] }
  | _ => none }
def qualityQuarterRow : OpenClaim := { program := "ytofklpmlgfbmlaagreat", sum := "0c879ddca78909af266662f525153e59750b3c16aee6165e05ea2a8e3677b3f6", func := "zellige/zelligelaw35.QualityQuarter", spec := "qualityQuarter", inPlace := ["math/bits.Sub64", "math/bits.Add64"], unfollowed := true, recurses := true, apart := false }
def QualityQuarterSaid : Prop := qualityQuarterRow.holds Tryz.pinned (OpenSpec.ofChange qualityQuarterSpec)

/-- ITS FALSE NEIGHBOUR: 'it returns false'. Refute it at one input. -/
def qualityQuarterWrong : ChangeSpec := { name := "qualityQuarter", fn := fun _ => fun
  | [d1, d2, d3] => { results := [.lit (.bool false)], args := [d1, d2, d3] }
  | _ => none }
def QualityQuarterWrongFalsely : Prop := qualityQuarterRow.holds Tryz.pinned (OpenSpec.ofChange qualityQuarterWrong)

/-- 'zelligelaw35.QualityWorst': WHATEVER THE INPUT: true; the input reads as it did. -/
def qualityWorstSpec : ChangeSpec := { name := "qualityWorst", fn := fun _ => fun
  | [d1, d2, d3] => { results := [.lit (.bool true)], args := [d1, d2, d3] }
  | _ => none }
def qualityWorstRow : OpenClaim := { program := "ytofklpmlgfbmlaagreat", sum := "0c879ddca78909af266662f525153e59750b3c16aee6165e05ea2a8e3677b3f6", func := "zellige/zelligelaw35.QualityWorst", spec := "qualityWorst", inPlace := ["math/bits.Sub64", "math/bits.Add64"], unfollowed := true, recurses := true, apart := false }
def QualityWorstSaid : Prop := qualityWorstRow.holds Tryz.pinned (OpenSpec.ofChange qualityWorstSpec)

/-- ITS FALSE NEIGHBOUR: 'it returns false'. Refute it at one input. -/
def qualityWorstWrong : ChangeSpec := { name := "qualityWorst", fn := fun _ => fun
  | [d1, d2, d3] => { results := [.lit (.bool false)], args := [d1, d2, d3] }
  | _ => none }
def QualityWorstWrongFalsely : Prop := qualityWorstRow.holds Tryz.pinned (OpenSpec.ofChange qualityWorstWrong)

/- THE SECOND FORM. 'bulk': how many values and letters a reading holds, each counted each time it is reached (what is shared counts as often as it is met; a slice's spare places count too). A statement '..UptoSaid' is the law's where the arguments, and the package variables that the reading takes, are together of bulk at most 1048576: NARROWER than '..Said'. Prove '..Said' where nothing that the law and all that it calls make is longer than what came in: it says more and counts as full. Else prove '..UptoSaid'. A law counts once. -/
mutual
def uptoBulk {H : Type} : DataW H → Nat
  | .lit (.string bytes) => bytes.length + 1
  | .lit _ => 1
  | .nil => 1
  | .ptr d => uptoBulk d + 1
  | .slice elems spare => uptoBulkAll elems + uptoBulkAll spare + 1
  | .agg parts => uptoBulkAll parts + 1
  | .iface _ d => uptoBulk d + 1
  | .map entries => uptoBulkEntries entries + 1
  | .held _ => 1
def uptoBulkAll {H : Type} : List (DataW H) → Nat
  | [] => 0
  | d :: r => uptoBulk d + uptoBulkAll r
def uptoBulkEntries {H : Type} : List (Lit × DataW H) → Nat
  | [] => 0
  | x :: r => uptoBulkEntry x + uptoBulkEntries r
def uptoBulkEntry {H : Type} : Lit × DataW H → Nat
  | (.string bytes, d) => bytes.length + uptoBulk d + 1
  | (_, d) => uptoBulk d + 1
 end
def uptoSmall : (H : Type) → List (DataW H) → Bool := fun _ ds => decide (uptoBulkAll ds ≤ 1048576)
def OpenSpec.upto (s : _root_.Go.ChangeSpec) : _root_.Go.OpenSpec := { _root_.Go.OpenSpec.ofChange s with cond := some uptoSmall }

/-- 'zelligelaw09.CircumSmall', WHERE WHAT IT READS IS OF BULK AT MOST 1048576: true; the input reads as it did. -/
def circumSmallUptoRow : OpenClaim := { program := "ytofklpmlgfbmlaagreat", sum := "0c879ddca78909af266662f525153e59750b3c16aee6165e05ea2a8e3677b3f6", func := "zellige/zelligelaw09.CircumSmall", spec := "circumSmall", inPlace := ["math/bits.Sub64", "math/bits.Add64"], apart := false, narrowed := true }
def CircumSmallUptoSaid : Prop := circumSmallUptoRow.holds Tryz.pinned (OpenSpec.upto circumSmallSpec)

/-- 'zelligelaw09.CircumCenters', WHERE WHAT IT READS IS OF BULK AT MOST 1048576: true; the input reads as it did. -/
def circumCentersUptoRow : OpenClaim := { program := "ytofklpmlgfbmlaagreat", sum := "0c879ddca78909af266662f525153e59750b3c16aee6165e05ea2a8e3677b3f6", func := "zellige/zelligelaw09.CircumCenters", spec := "circumCenters", inPlace := ["math/bits.Sub64", "math/bits.Add64"], apart := false, narrowed := true }
def CircumCentersUptoSaid : Prop := circumCentersUptoRow.holds Tryz.pinned (OpenSpec.upto circumCentersSpec)

/-- 'zelligelaw09.CircumRadii', WHERE WHAT IT READS IS OF BULK AT MOST 1048576: true; the input reads as it did. -/
def circumRadiiUptoRow : OpenClaim := { program := "ytofklpmlgfbmlaagreat", sum := "0c879ddca78909af266662f525153e59750b3c16aee6165e05ea2a8e3677b3f6", func := "zellige/zelligelaw09.CircumRadii", spec := "circumRadii", inPlace := ["math/bits.Sub64", "math/bits.Add64"], apart := false, narrowed := true }
def CircumRadiiUptoSaid : Prop := circumRadiiUptoRow.holds Tryz.pinned (OpenSpec.upto circumRadiiSpec)

/-- 'zelligelaw09.CircumMoves', WHERE WHAT IT READS IS OF BULK AT MOST 1048576: true; the input reads as it did. -/
def circumMovesUptoRow : OpenClaim := { program := "ytofklpmlgfbmlaagreat", sum := "0c879ddca78909af266662f525153e59750b3c16aee6165e05ea2a8e3677b3f6", func := "zellige/zelligelaw09.CircumMoves", spec := "circumMoves", inPlace := ["math/bits.Sub64", "math/bits.Add64"], apart := false, narrowed := true }
def CircumMovesUptoSaid : Prop := circumMovesUptoRow.holds Tryz.pinned (OpenSpec.upto circumMovesSpec)

/-- 'zelligelaw35.QualityShapes', WHERE WHAT IT READS IS OF BULK AT MOST 1048576: true; the input reads as it did. -/
def qualityShapesUptoRow : OpenClaim := { program := "ytofklpmlgfbmlaagreat", sum := "0c879ddca78909af266662f525153e59750b3c16aee6165e05ea2a8e3677b3f6", func := "zellige/zelligelaw35.QualityShapes", spec := "qualityShapes", inPlace := ["math/bits.Sub64", "math/bits.Add64"], unfollowed := true, recurses := true, apart := false, narrowed := true }
def QualityShapesUptoSaid : Prop := qualityShapesUptoRow.holds Tryz.pinned (OpenSpec.upto qualityShapesSpec)

/-- 'zelligelaw35.QualityAlike', WHERE WHAT IT READS IS OF BULK AT MOST 1048576: true; the input reads as it did. -/
def qualityAlikeUptoRow : OpenClaim := { program := "ytofklpmlgfbmlaagreat", sum := "0c879ddca78909af266662f525153e59750b3c16aee6165e05ea2a8e3677b3f6", func := "zellige/zelligelaw35.QualityAlike", spec := "qualityAlike", inPlace := ["math/bits.Sub64", "math/bits.Add64"], unfollowed := true, recurses := true, apart := false, narrowed := true }
def QualityAlikeUptoSaid : Prop := qualityAlikeUptoRow.holds Tryz.pinned (OpenSpec.upto qualityAlikeSpec)

/-- 'zelligelaw35.QualitySlims', WHERE WHAT IT READS IS OF BULK AT MOST 1048576: true; the input reads as it did. -/
def qualitySlimsUptoRow : OpenClaim := { program := "ytofklpmlgfbmlaagreat", sum := "0c879ddca78909af266662f525153e59750b3c16aee6165e05ea2a8e3677b3f6", func := "zellige/zelligelaw35.QualitySlims", spec := "qualitySlims", inPlace := ["math/bits.Sub64", "math/bits.Add64"], unfollowed := true, recurses := true, apart := false, narrowed := true }
def QualitySlimsUptoSaid : Prop := qualitySlimsUptoRow.holds Tryz.pinned (OpenSpec.upto qualitySlimsSpec)

/-- 'zelligelaw35.QualityQuarter', WHERE WHAT IT READS IS OF BULK AT MOST 1048576: true; the input reads as it did. -/
def qualityQuarterUptoRow : OpenClaim := { program := "ytofklpmlgfbmlaagreat", sum := "0c879ddca78909af266662f525153e59750b3c16aee6165e05ea2a8e3677b3f6", func := "zellige/zelligelaw35.QualityQuarter", spec := "qualityQuarter", inPlace := ["math/bits.Sub64", "math/bits.Add64"], unfollowed := true, recurses := true, apart := false, narrowed := true }
def QualityQuarterUptoSaid : Prop := qualityQuarterUptoRow.holds Tryz.pinned (OpenSpec.upto qualityQuarterSpec)

/-- 'zelligelaw35.QualityWorst', WHERE WHAT IT READS IS OF BULK AT MOST 1048576: true; the input reads as it did. -/
def qualityWorstUptoRow : OpenClaim := { program := "ytofklpmlgfbmlaagreat", sum := "0c879ddca78909af266662f525153e59750b3c16aee6165e05ea2a8e3677b3f6", func := "zellige/zelligelaw35.QualityWorst", spec := "qualityWorst", inPlace := ["math/bits.Sub64", "math/bits.Add64"], unfollowed := true, recurses := true, apart := false, narrowed := true }
def QualityWorstUptoSaid : Prop := qualityWorstUptoRow.holds Tryz.pinned (OpenSpec.upto qualityWorstSpec)

end Rows
end Go.Proofs.YtofklpmlgfbmlaaGreat
