/-
  No cell of these rows narrows 'for every input' (looked for: loops, veiled, ifaces, maps, wideKeys, modest, calm, conditions, laid).
  DERIVED. THE GIVEN ROWS OF THIS SEAT. 4 by the template 'for every input the law returns true; each argument reads behind the call as it read before'; 0 by the template 'total and deterministic' (their statements: YtgpepiefojjkaaaTotals.lean).
  GIVEN WITH THE SEED: the statements are not yours to turn. If you find one false, say at which input.
  Laid BY PROGRAM, IN A SANDBOX (cutbox-rows.mjs): the forced cells as the released guide's own fill.sh prints them over the translation e80aeba580bf2d4c… (all of the seat's roots in one cut). By AI agents, Wed Nov 11 2026. No macro, syntax, notation, axiom, sorry.
-/
import Derived.Test.YtgpepiefojjkaaaChecked
import GoSem.Claim
import GoSem.ClaimJoined
import GoSem.ClaimMapViews
import Derived.JoinedTies
import Derived.KernelRfl
namespace Go.Proofs.Ytgpepiefojjkaaa
/- THE CELL 'sum', in the pinned program and in every row, IS THE sha256 OF THE DUMP (.gsa) THAT YtgpepiefojjkaaaProg.lean LOADS. Nothing in Lean hashes anything: it is a label: what it is worth is what the hold of that sum in a sandbox is worth. -/
noncomputable def Try.pinned : Pinned := { name := "ytgpepiefojjkaaa", sum := "e80aeba580bf2d4c34e03238483589e893ada778fcbd961e6e27f54bd05c1098", checked := Try.checked }
namespace Rows
def none {H : Type} : Left H := { results := [], args := [] }

/-- 'zelligelaw23.PointsParses': WHATEVER THE INPUT: true; the input reads as it did. -/
def pointsParsesSpec : ChangeSpec := { name := "pointsParses", fn := fun _ => fun
  | [d] => { results := [.lit (.bool true)], args := [d] }
  | _ => none }
def pointsParsesRow : OpenClaim := { program := "ytgpepiefojjkaaa", sum := "e80aeba580bf2d4c34e03238483589e893ada778fcbd961e6e27f54bd05c1098", func := "zellige/zelligelaw23.PointsParses", spec := "pointsParses", apart := false }
def PointsParsesSaid : Prop := pointsParsesRow.holds Try.pinned (OpenSpec.ofChange pointsParsesSpec)

/-- ITS FALSE NEIGHBOUR: 'it returns false'. Refute it at one input. -/
def pointsParsesWrong : ChangeSpec := { name := "pointsParses", fn := fun _ => fun
  | [d] => { results := [.lit (.bool false)], args := [d] }
  | _ => none }
def PointsParsesWrongFalsely : Prop := pointsParsesRow.holds Try.pinned (OpenSpec.ofChange pointsParsesWrong)

/-- 'zelligelaw23.PointsLongest': WHATEVER THE INPUT: true; the input reads as it did. -/
def pointsLongestSpec : ChangeSpec := { name := "pointsLongest", fn := fun _ => fun
  | [d] => { results := [.lit (.bool true)], args := [d] }
  | _ => none }
def pointsLongestRow : OpenClaim := { program := "ytgpepiefojjkaaa", sum := "e80aeba580bf2d4c34e03238483589e893ada778fcbd961e6e27f54bd05c1098", func := "zellige/zelligelaw23.PointsLongest", spec := "pointsLongest", apart := false }
def PointsLongestSaid : Prop := pointsLongestRow.holds Try.pinned (OpenSpec.ofChange pointsLongestSpec)

/-- ITS FALSE NEIGHBOUR: 'it returns false'. Refute it at one input. -/
def pointsLongestWrong : ChangeSpec := { name := "pointsLongest", fn := fun _ => fun
  | [d] => { results := [.lit (.bool false)], args := [d] }
  | _ => none }
def PointsLongestWrongFalsely : Prop := pointsLongestRow.holds Try.pinned (OpenSpec.ofChange pointsLongestWrong)

/-- 'zelligelaw24.FileParses': WHATEVER THE INPUT: true; the input reads as it did. -/
def fileParsesSpec : ChangeSpec := { name := "fileParses", fn := fun _ => fun
  | [d] => { results := [.lit (.bool true)], args := [d] }
  | _ => none }
def fileParsesRow : OpenClaim := { program := "ytgpepiefojjkaaa", sum := "e80aeba580bf2d4c34e03238483589e893ada778fcbd961e6e27f54bd05c1098", func := "zellige/zelligelaw24.FileParses", spec := "fileParses", apart := false }
def FileParsesSaid : Prop := fileParsesRow.holds Try.pinned (OpenSpec.ofChange fileParsesSpec)

/-- ITS FALSE NEIGHBOUR: 'it returns false'. Refute it at one input. -/
def fileParsesWrong : ChangeSpec := { name := "fileParses", fn := fun _ => fun
  | [d] => { results := [.lit (.bool false)], args := [d] }
  | _ => none }
def FileParsesWrongFalsely : Prop := fileParsesRow.holds Try.pinned (OpenSpec.ofChange fileParsesWrong)

/-- 'zelligelaw24.FileLongest': WHATEVER THE INPUT: true; the input reads as it did. -/
def fileLongestSpec : ChangeSpec := { name := "fileLongest", fn := fun _ => fun
  | [d] => { results := [.lit (.bool true)], args := [d] }
  | _ => none }
def fileLongestRow : OpenClaim := { program := "ytgpepiefojjkaaa", sum := "e80aeba580bf2d4c34e03238483589e893ada778fcbd961e6e27f54bd05c1098", func := "zellige/zelligelaw24.FileLongest", spec := "fileLongest", apart := false }
def FileLongestSaid : Prop := fileLongestRow.holds Try.pinned (OpenSpec.ofChange fileLongestSpec)

/-- ITS FALSE NEIGHBOUR: 'it returns false'. Refute it at one input. -/
def fileLongestWrong : ChangeSpec := { name := "fileLongest", fn := fun _ => fun
  | [d] => { results := [.lit (.bool false)], args := [d] }
  | _ => none }
def FileLongestWrongFalsely : Prop := fileLongestRow.holds Try.pinned (OpenSpec.ofChange fileLongestWrong)

/- THE SECOND FORM. 'bulk': how many values and letters a reading holds, each counted each time it is reached (what is shared counts as often as it is met; a slice's spare places count too). A statement '..UptoSaid' is the law's where the arguments, and the package variables that the reading takes, are together of bulk at most 1048576: NARROWER than '..Said'. Prove '..Said' where nothing that the law and all that it calls make is longer than what came in: it says more and counts as full. Else prove '..UptoSaid'. A law counts once. -/
mutual
def uptoBulk {H : Type} : DataW H → Nat
  | .lit (.string bytes) => bytes.length + 1
  | .lit _ => 1
  | .nil => 1
  | .ptr d => uptoBulk d + 1
  | .slice elems spare => uptoBulkAll elems + uptoBulkAll spare + 1
  | .agg parts => uptoBulkAll parts + 1
  | .iface _ d => uptoBulk d + 1
  | .map entries => uptoBulkEntries entries + 1
  | .held _ => 1
def uptoBulkAll {H : Type} : List (DataW H) → Nat
  | [] => 0
  | d :: r => uptoBulk d + uptoBulkAll r
def uptoBulkEntries {H : Type} : List (Lit × DataW H) → Nat
  | [] => 0
  | x :: r => uptoBulkEntry x + uptoBulkEntries r
def uptoBulkEntry {H : Type} : Lit × DataW H → Nat
  | (.string bytes, d) => bytes.length + uptoBulk d + 1
  | (_, d) => uptoBulk d + 1
 end
def uptoSmall : (H : Type) → List (DataW H) → Bool := fun _ ds => decide (uptoBulkAll ds ≤ 1048576)
def OpenSpec.upto (s : _root_.Go.ChangeSpec) : _root_.Go.OpenSpec := { _root_.Go.OpenSpec.ofChange s with cond := some uptoSmall }

/-- 'zelligelaw23.PointsParses', WHERE WHAT IT READS IS OF BULK AT MOST 1048576: true; the input reads as it did. -/
def pointsParsesUptoRow : OpenClaim := { program := "ytgpepiefojjkaaa", sum := "e80aeba580bf2d4c34e03238483589e893ada778fcbd961e6e27f54bd05c1098", func := "zellige/zelligelaw23.PointsParses", spec := "pointsParses", apart := false, narrowed := true }
def PointsParsesUptoSaid : Prop := pointsParsesUptoRow.holds Try.pinned (OpenSpec.upto pointsParsesSpec)

/-- 'zelligelaw23.PointsLongest', WHERE WHAT IT READS IS OF BULK AT MOST 1048576: true; the input reads as it did. -/
def pointsLongestUptoRow : OpenClaim := { program := "ytgpepiefojjkaaa", sum := "e80aeba580bf2d4c34e03238483589e893ada778fcbd961e6e27f54bd05c1098", func := "zellige/zelligelaw23.PointsLongest", spec := "pointsLongest", apart := false, narrowed := true }
def PointsLongestUptoSaid : Prop := pointsLongestUptoRow.holds Try.pinned (OpenSpec.upto pointsLongestSpec)

/-- 'zelligelaw24.FileParses', WHERE WHAT IT READS IS OF BULK AT MOST 1048576: true; the input reads as it did. -/
def fileParsesUptoRow : OpenClaim := { program := "ytgpepiefojjkaaa", sum := "e80aeba580bf2d4c34e03238483589e893ada778fcbd961e6e27f54bd05c1098", func := "zellige/zelligelaw24.FileParses", spec := "fileParses", apart := false, narrowed := true }
def FileParsesUptoSaid : Prop := fileParsesUptoRow.holds Try.pinned (OpenSpec.upto fileParsesSpec)

/-- 'zelligelaw24.FileLongest', WHERE WHAT IT READS IS OF BULK AT MOST 1048576: true; the input reads as it did. -/
def fileLongestUptoRow : OpenClaim := { program := "ytgpepiefojjkaaa", sum := "e80aeba580bf2d4c34e03238483589e893ada778fcbd961e6e27f54bd05c1098", func := "zellige/zelligelaw24.FileLongest", spec := "fileLongest", apart := false, narrowed := true }
def FileLongestUptoSaid : Prop := fileLongestUptoRow.holds Try.pinned (OpenSpec.upto fileLongestSpec)

end Rows
end Go.Proofs.Ytgpepiefojjkaaa
