/-
  No cell of these rows narrows 'for every input' (looked for: loops, veiled, ifaces, maps, wideKeys, modest, calm, conditions, laid).
  DERIVED. THE GIVEN ROWS OF THIS SEAT. 12 by the template 'for every input the law returns true; each argument reads behind the call as it read before'; 0 by the template 'total and deterministic' (their statements: YtafhcchjjlbojaaTotals.lean).
  GIVEN WITH THE SEED: the statements are not yours to turn. If you find one false, say at which input.
  Laid BY PROGRAM, IN A SANDBOX (cutbox-rows.mjs): the forced cells as the released guide's own fill.sh prints them over the translation 29809584f17047d5… (all of the seat's roots in one cut). By AI agents, Wed Nov 11 2026. No macro, syntax, notation, axiom, sorry.
-/
import Derived.Test.YtafhcchjjlbojaaChecked
import GoSem.Claim
import GoSem.ClaimJoined
import GoSem.ClaimMapViews
import Derived.JoinedTies
import Derived.KernelRfl
namespace Go.Proofs.Ytafhcchjjlbojaa
/- THE CELL 'sum', in the pinned program and in every row, IS THE sha256 OF THE DUMP (.gsa) THAT YtafhcchjjlbojaaProg.lean LOADS. Nothing in Lean hashes anything: it is a label: what it is worth is what the hold of that sum in a sandbox is worth. -/
noncomputable def Try.pinned : Pinned := { name := "ytafhcchjjlbojaa", sum := "29809584f17047d5de285df1a455e4e2fcfe1032220ecbb143860ecbc064eabb", checked := Try.checked }
namespace Rows
def none {H : Type} : Left H := { results := [], args := [] }

/-- 'zelligelaw23.PointsParses': WHATEVER THE INPUT: true; the input reads as it did. -/
def pointsParsesSpec : ChangeSpec := { name := "pointsParses", fn := fun _ => fun
  | [d] => { results := [.lit (.bool true)], args := [d] }
  | _ => none }
def pointsParsesRow : OpenClaim := { program := "ytafhcchjjlbojaa", sum := "29809584f17047d5de285df1a455e4e2fcfe1032220ecbb143860ecbc064eabb", func := "zellige/zelligelaw23.PointsParses", spec := "pointsParses", apart := false }
def PointsParsesSaid : Prop := pointsParsesRow.holds Try.pinned (OpenSpec.ofChange pointsParsesSpec)

/-- ITS FALSE NEIGHBOUR: 'it returns false'. Refute it at one input. -/
def pointsParsesWrong : ChangeSpec := { name := "pointsParses", fn := fun _ => fun
  | [d] => { results := [.lit (.bool false)], args := [d] }
  | _ => none }
def PointsParsesWrongFalsely : Prop := pointsParsesRow.holds Try.pinned (OpenSpec.ofChange pointsParsesWrong)

/-- 'zelligelaw23.PointsLongest': WHATEVER THE INPUT: true; the input reads as it did. -/
def pointsLongestSpec : ChangeSpec := { name := "pointsLongest", fn := fun _ => fun
  | [d] => { results := [.lit (.bool true)], args := [d] }
  | _ => none }
def pointsLongestRow : OpenClaim := { program := "ytafhcchjjlbojaa", sum := "29809584f17047d5de285df1a455e4e2fcfe1032220ecbb143860ecbc064eabb", func := "zellige/zelligelaw23.PointsLongest", spec := "pointsLongest", apart := false }
def PointsLongestSaid : Prop := pointsLongestRow.holds Try.pinned (OpenSpec.ofChange pointsLongestSpec)

/-- ITS FALSE NEIGHBOUR: 'it returns false'. Refute it at one input. -/
def pointsLongestWrong : ChangeSpec := { name := "pointsLongest", fn := fun _ => fun
  | [d] => { results := [.lit (.bool false)], args := [d] }
  | _ => none }
def PointsLongestWrongFalsely : Prop := pointsLongestRow.holds Try.pinned (OpenSpec.ofChange pointsLongestWrong)

/-- 'zelligelaw24.FileParses': WHATEVER THE INPUT: true; the input reads as it did. -/
def fileParsesSpec : ChangeSpec := { name := "fileParses", fn := fun _ => fun
  | [d] => { results := [.lit (.bool true)], args := [d] }
  | _ => none }
def fileParsesRow : OpenClaim := { program := "ytafhcchjjlbojaa", sum := "29809584f17047d5de285df1a455e4e2fcfe1032220ecbb143860ecbc064eabb", func := "zellige/zelligelaw24.FileParses", spec := "fileParses", apart := false }
def FileParsesSaid : Prop := fileParsesRow.holds Try.pinned (OpenSpec.ofChange fileParsesSpec)

/-- ITS FALSE NEIGHBOUR: 'it returns false'. Refute it at one input. -/
def fileParsesWrong : ChangeSpec := { name := "fileParses", fn := fun _ => fun
  | [d] => { results := [.lit (.bool false)], args := [d] }
  | _ => none }
def FileParsesWrongFalsely : Prop := fileParsesRow.holds Try.pinned (OpenSpec.ofChange fileParsesWrong)

/-- 'zelligelaw24.FileLongest': WHATEVER THE INPUT: true; the input reads as it did. -/
def fileLongestSpec : ChangeSpec := { name := "fileLongest", fn := fun _ => fun
  | [d] => { results := [.lit (.bool true)], args := [d] }
  | _ => none }
def fileLongestRow : OpenClaim := { program := "ytafhcchjjlbojaa", sum := "29809584f17047d5de285df1a455e4e2fcfe1032220ecbb143860ecbc064eabb", func := "zellige/zelligelaw24.FileLongest", spec := "fileLongest", apart := false }
def FileLongestSaid : Prop := fileLongestRow.holds Try.pinned (OpenSpec.ofChange fileLongestSpec)

/-- ITS FALSE NEIGHBOUR: 'it returns false'. Refute it at one input. -/
def fileLongestWrong : ChangeSpec := { name := "fileLongest", fn := fun _ => fun
  | [d] => { results := [.lit (.bool false)], args := [d] }
  | _ => none }
def FileLongestWrongFalsely : Prop := fileLongestRow.holds Try.pinned (OpenSpec.ofChange fileLongestWrong)

/-- 'zelligelaw03.NatDivides': WHATEVER THE INPUT: true; the input reads as it did. -/
def natDividesSpec : ChangeSpec := { name := "natDivides", fn := fun _ => fun
  | [d1, d2] => { results := [.lit (.bool true)], args := [d1, d2] }
  | _ => none }
def natDividesRow : OpenClaim := { program := "ytafhcchjjlbojaa", sum := "29809584f17047d5de285df1a455e4e2fcfe1032220ecbb143860ecbc064eabb", func := "zellige/zelligelaw03.NatDivides", spec := "natDivides", apart := false }
def NatDividesSaid : Prop := natDividesRow.holds Try.pinned (OpenSpec.ofChange natDividesSpec)

/-- ITS FALSE NEIGHBOUR: 'it returns false'. Refute it at one input. -/
def natDividesWrong : ChangeSpec := { name := "natDivides", fn := fun _ => fun
  | [d1, d2] => { results := [.lit (.bool false)], args := [d1, d2] }
  | _ => none }
def NatDividesWrongFalsely : Prop := natDividesRow.holds Try.pinned (OpenSpec.ofChange natDividesWrong)

/-- 'zelligelaw03.NatShows': WHATEVER THE INPUT: true; the input reads as it did. -/
def natShowsSpec : ChangeSpec := { name := "natShows", fn := fun _ => fun
  | [d1, d2] => { results := [.lit (.bool true)], args := [d1, d2] }
  | _ => none }
def natShowsRow : OpenClaim := { program := "ytafhcchjjlbojaa", sum := "29809584f17047d5de285df1a455e4e2fcfe1032220ecbb143860ecbc064eabb", func := "zellige/zelligelaw03.NatShows", spec := "natShows", apart := false }
def NatShowsSaid : Prop := natShowsRow.holds Try.pinned (OpenSpec.ofChange natShowsSpec)

/-- ITS FALSE NEIGHBOUR: 'it returns false'. Refute it at one input. -/
def natShowsWrong : ChangeSpec := { name := "natShows", fn := fun _ => fun
  | [d1, d2] => { results := [.lit (.bool false)], args := [d1, d2] }
  | _ => none }
def NatShowsWrongFalsely : Prop := natShowsRow.holds Try.pinned (OpenSpec.ofChange natShowsWrong)

/-- 'zelligelaw03.NatParses': WHATEVER THE INPUT: true; the input reads as it did. -/
def natParsesSpec : ChangeSpec := { name := "natParses", fn := fun _ => fun
  | [d] => { results := [.lit (.bool true)], args := [d] }
  | _ => none }
def natParsesRow : OpenClaim := { program := "ytafhcchjjlbojaa", sum := "29809584f17047d5de285df1a455e4e2fcfe1032220ecbb143860ecbc064eabb", func := "zellige/zelligelaw03.NatParses", spec := "natParses", apart := false }
def NatParsesSaid : Prop := natParsesRow.holds Try.pinned (OpenSpec.ofChange natParsesSpec)

/-- ITS FALSE NEIGHBOUR: 'it returns false'. Refute it at one input. -/
def natParsesWrong : ChangeSpec := { name := "natParses", fn := fun _ => fun
  | [d] => { results := [.lit (.bool false)], args := [d] }
  | _ => none }
def NatParsesWrongFalsely : Prop := natParsesRow.holds Try.pinned (OpenSpec.ofChange natParsesWrong)

/-- 'zelligelaw03.NatGcds': WHATEVER THE INPUT: true; the input reads as it did. -/
def natGcdsSpec : ChangeSpec := { name := "natGcds", fn := fun _ => fun
  | [d1, d2] => { results := [.lit (.bool true)], args := [d1, d2] }
  | _ => none }
def natGcdsRow : OpenClaim := { program := "ytafhcchjjlbojaa", sum := "29809584f17047d5de285df1a455e4e2fcfe1032220ecbb143860ecbc064eabb", func := "zellige/zelligelaw03.NatGcds", spec := "natGcds", apart := false }
def NatGcdsSaid : Prop := natGcdsRow.holds Try.pinned (OpenSpec.ofChange natGcdsSpec)

/-- ITS FALSE NEIGHBOUR: 'it returns false'. Refute it at one input. -/
def natGcdsWrong : ChangeSpec := { name := "natGcds", fn := fun _ => fun
  | [d1, d2] => { results := [.lit (.bool false)], args := [d1, d2] }
  | _ => none }
def NatGcdsWrongFalsely : Prop := natGcdsRow.holds Try.pinned (OpenSpec.ofChange natGcdsWrong)

/-- 'zelligelaw03.NatCoprime': WHATEVER THE INPUT: true; the input reads as it did. -/
def natCoprimeSpec : ChangeSpec := { name := "natCoprime", fn := fun _ => fun
  | [d1, d2] => { results := [.lit (.bool true)], args := [d1, d2] }
  | _ => none }
def natCoprimeRow : OpenClaim := { program := "ytafhcchjjlbojaa", sum := "29809584f17047d5de285df1a455e4e2fcfe1032220ecbb143860ecbc064eabb", func := "zellige/zelligelaw03.NatCoprime", spec := "natCoprime", apart := false }
def NatCoprimeSaid : Prop := natCoprimeRow.holds Try.pinned (OpenSpec.ofChange natCoprimeSpec)

/-- ITS FALSE NEIGHBOUR: 'it returns false'. Refute it at one input. -/
def natCoprimeWrong : ChangeSpec := { name := "natCoprime", fn := fun _ => fun
  | [d1, d2] => { results := [.lit (.bool false)], args := [d1, d2] }
  | _ => none }
def NatCoprimeWrongFalsely : Prop := natCoprimeRow.holds Try.pinned (OpenSpec.ofChange natCoprimeWrong)

/-- 'zelligelaw03.NatOrders': WHATEVER THE INPUT: true; the input reads as it did. -/
def natOrdersSpec : ChangeSpec := { name := "natOrders", fn := fun _ => fun
  | [d1, d2] => { results := [.lit (.bool true)], args := [d1, d2] }
  | _ => none }
def natOrdersRow : OpenClaim := { program := "ytafhcchjjlbojaa", sum := "29809584f17047d5de285df1a455e4e2fcfe1032220ecbb143860ecbc064eabb", func := "zellige/zelligelaw03.NatOrders", spec := "natOrders", apart := false }
def NatOrdersSaid : Prop := natOrdersRow.holds Try.pinned (OpenSpec.ofChange natOrdersSpec)

/-- ITS FALSE NEIGHBOUR: 'it returns false'. Refute it at one input. -/
def natOrdersWrong : ChangeSpec := { name := "natOrders", fn := fun _ => fun
  | [d1, d2] => { results := [.lit (.bool false)], args := [d1, d2] }
  | _ => none }
def NatOrdersWrongFalsely : Prop := natOrdersRow.holds Try.pinned (OpenSpec.ofChange natOrdersWrong)

/-- 'zelligelaw03.NatAdds': WHATEVER THE INPUT: true; the input reads as it did. -/
def natAddsSpec : ChangeSpec := { name := "natAdds", fn := fun _ => fun
  | [d1, d2] => { results := [.lit (.bool true)], args := [d1, d2] }
  | _ => none }
def natAddsRow : OpenClaim := { program := "ytafhcchjjlbojaa", sum := "29809584f17047d5de285df1a455e4e2fcfe1032220ecbb143860ecbc064eabb", func := "zellige/zelligelaw03.NatAdds", spec := "natAdds", apart := false }
def NatAddsSaid : Prop := natAddsRow.holds Try.pinned (OpenSpec.ofChange natAddsSpec)

/-- ITS FALSE NEIGHBOUR: 'it returns false'. Refute it at one input. -/
def natAddsWrong : ChangeSpec := { name := "natAdds", fn := fun _ => fun
  | [d1, d2] => { results := [.lit (.bool false)], args := [d1, d2] }
  | _ => none }
def NatAddsWrongFalsely : Prop := natAddsRow.holds Try.pinned (OpenSpec.ofChange natAddsWrong)

/-- 'zelligelaw03.NatBack': WHATEVER THE INPUT: true; the input reads as it did. -/
def natBackSpec : ChangeSpec := { name := "natBack", fn := fun _ => fun
  | [d1, d2] => { results := [.lit (.bool true)], args := [d1, d2] }
  | _ => none }
def natBackRow : OpenClaim := { program := "ytafhcchjjlbojaa", sum := "29809584f17047d5de285df1a455e4e2fcfe1032220ecbb143860ecbc064eabb", func := "zellige/zelligelaw03.NatBack", spec := "natBack", apart := false }
def NatBackSaid : Prop := natBackRow.holds Try.pinned (OpenSpec.ofChange natBackSpec)

/-- ITS FALSE NEIGHBOUR: 'it returns false'. Refute it at one input. -/
def natBackWrong : ChangeSpec := { name := "natBack", fn := fun _ => fun
  | [d1, d2] => { results := [.lit (.bool false)], args := [d1, d2] }
  | _ => none }
def NatBackWrongFalsely : Prop := natBackRow.holds Try.pinned (OpenSpec.ofChange natBackWrong)

/- THE SECOND FORM. 'bulk': how many values and letters a reading holds, each counted each time it is reached (what is shared counts as often as it is met; a slice's spare places count too). A statement '..UptoSaid' is the law's where the arguments, and the package variables that the reading takes, are together of bulk at most 1048576: NARROWER than '..Said'. Prove '..Said' where nothing that the law and all that it calls make is longer than what came in: it says more and counts as full. Else prove '..UptoSaid'. A law counts once. -/
mutual
def uptoBulk {H : Type} : DataW H → Nat
  | .lit (.string bytes) => bytes.length + 1
  | .lit _ => 1
  | .nil => 1
  | .ptr d => uptoBulk d + 1
  | .slice elems spare => uptoBulkAll elems + uptoBulkAll spare + 1
  | .agg parts => uptoBulkAll parts + 1
  | .iface _ d => uptoBulk d + 1
  | .map entries => uptoBulkEntries entries + 1
  | .held _ => 1
def uptoBulkAll {H : Type} : List (DataW H) → Nat
  | [] => 0
  | d :: r => uptoBulk d + uptoBulkAll r
def uptoBulkEntries {H : Type} : List (Lit × DataW H) → Nat
  | [] => 0
  | x :: r => uptoBulkEntry x + uptoBulkEntries r
def uptoBulkEntry {H : Type} : Lit × DataW H → Nat
  | (.string bytes, d) => bytes.length + uptoBulk d + 1
  | (_, d) => uptoBulk d + 1
 end
def uptoSmall : (H : Type) → List (DataW H) → Bool := fun _ ds => decide (uptoBulkAll ds ≤ 1048576)
def OpenSpec.upto (s : _root_.Go.ChangeSpec) : _root_.Go.OpenSpec := { _root_.Go.OpenSpec.ofChange s with cond := some uptoSmall }

/-- 'zelligelaw23.PointsParses', WHERE WHAT IT READS IS OF BULK AT MOST 1048576: true; the input reads as it did. -/
def pointsParsesUptoRow : OpenClaim := { program := "ytafhcchjjlbojaa", sum := "29809584f17047d5de285df1a455e4e2fcfe1032220ecbb143860ecbc064eabb", func := "zellige/zelligelaw23.PointsParses", spec := "pointsParses", apart := false, narrowed := true }
def PointsParsesUptoSaid : Prop := pointsParsesUptoRow.holds Try.pinned (OpenSpec.upto pointsParsesSpec)

/-- 'zelligelaw23.PointsLongest', WHERE WHAT IT READS IS OF BULK AT MOST 1048576: true; the input reads as it did. -/
def pointsLongestUptoRow : OpenClaim := { program := "ytafhcchjjlbojaa", sum := "29809584f17047d5de285df1a455e4e2fcfe1032220ecbb143860ecbc064eabb", func := "zellige/zelligelaw23.PointsLongest", spec := "pointsLongest", apart := false, narrowed := true }
def PointsLongestUptoSaid : Prop := pointsLongestUptoRow.holds Try.pinned (OpenSpec.upto pointsLongestSpec)

/-- 'zelligelaw24.FileParses', WHERE WHAT IT READS IS OF BULK AT MOST 1048576: true; the input reads as it did. -/
def fileParsesUptoRow : OpenClaim := { program := "ytafhcchjjlbojaa", sum := "29809584f17047d5de285df1a455e4e2fcfe1032220ecbb143860ecbc064eabb", func := "zellige/zelligelaw24.FileParses", spec := "fileParses", apart := false, narrowed := true }
def FileParsesUptoSaid : Prop := fileParsesUptoRow.holds Try.pinned (OpenSpec.upto fileParsesSpec)

/-- 'zelligelaw24.FileLongest', WHERE WHAT IT READS IS OF BULK AT MOST 1048576: true; the input reads as it did. -/
def fileLongestUptoRow : OpenClaim := { program := "ytafhcchjjlbojaa", sum := "29809584f17047d5de285df1a455e4e2fcfe1032220ecbb143860ecbc064eabb", func := "zellige/zelligelaw24.FileLongest", spec := "fileLongest", apart := false, narrowed := true }
def FileLongestUptoSaid : Prop := fileLongestUptoRow.holds Try.pinned (OpenSpec.upto fileLongestSpec)

/-- 'zelligelaw03.NatDivides', WHERE WHAT IT READS IS OF BULK AT MOST 1048576: true; the input reads as it did. -/
def natDividesUptoRow : OpenClaim := { program := "ytafhcchjjlbojaa", sum := "29809584f17047d5de285df1a455e4e2fcfe1032220ecbb143860ecbc064eabb", func := "zellige/zelligelaw03.NatDivides", spec := "natDivides", apart := false, narrowed := true }
def NatDividesUptoSaid : Prop := natDividesUptoRow.holds Try.pinned (OpenSpec.upto natDividesSpec)

/-- 'zelligelaw03.NatShows', WHERE WHAT IT READS IS OF BULK AT MOST 1048576: true; the input reads as it did. -/
def natShowsUptoRow : OpenClaim := { program := "ytafhcchjjlbojaa", sum := "29809584f17047d5de285df1a455e4e2fcfe1032220ecbb143860ecbc064eabb", func := "zellige/zelligelaw03.NatShows", spec := "natShows", apart := false, narrowed := true }
def NatShowsUptoSaid : Prop := natShowsUptoRow.holds Try.pinned (OpenSpec.upto natShowsSpec)

/-- 'zelligelaw03.NatParses', WHERE WHAT IT READS IS OF BULK AT MOST 1048576: true; the input reads as it did. -/
def natParsesUptoRow : OpenClaim := { program := "ytafhcchjjlbojaa", sum := "29809584f17047d5de285df1a455e4e2fcfe1032220ecbb143860ecbc064eabb", func := "zellige/zelligelaw03.NatParses", spec := "natParses", apart := false, narrowed := true }
def NatParsesUptoSaid : Prop := natParsesUptoRow.holds Try.pinned (OpenSpec.upto natParsesSpec)

/-- 'zelligelaw03.NatGcds', WHERE WHAT IT READS IS OF BULK AT MOST 1048576: true; the input reads as it did. -/
def natGcdsUptoRow : OpenClaim := { program := "ytafhcchjjlbojaa", sum := "29809584f17047d5de285df1a455e4e2fcfe1032220ecbb143860ecbc064eabb", func := "zellige/zelligelaw03.NatGcds", spec := "natGcds", apart := false, narrowed := true }
def NatGcdsUptoSaid : Prop := natGcdsUptoRow.holds Try.pinned (OpenSpec.upto natGcdsSpec)

/-- 'zelligelaw03.NatCoprime', WHERE WHAT IT READS IS OF BULK AT MOST 1048576: true; the input reads as it did. -/
def natCoprimeUptoRow : OpenClaim := { program := "ytafhcchjjlbojaa", sum := "29809584f17047d5de285df1a455e4e2fcfe1032220ecbb143860ecbc064eabb", func := "zellige/zelligelaw03.NatCoprime", spec := "natCoprime", apart := false, narrowed := true }
def NatCoprimeUptoSaid : Prop := natCoprimeUptoRow.holds Try.pinned (OpenSpec.upto natCoprimeSpec)

/-- 'zelligelaw03.NatOrders', WHERE WHAT IT READS IS OF BULK AT MOST 1048576: true; the input reads as it did. -/
def natOrdersUptoRow : OpenClaim := { program := "ytafhcchjjlbojaa", sum := "29809584f17047d5de285df1a455e4e2fcfe1032220ecbb143860ecbc064eabb", func := "zellige/zelligelaw03.NatOrders", spec := "natOrders", apart := false, narrowed := true }
def NatOrdersUptoSaid : Prop := natOrdersUptoRow.holds Try.pinned (OpenSpec.upto natOrdersSpec)

/-- 'zelligelaw03.NatAdds', WHERE WHAT IT READS IS OF BULK AT MOST 1048576: true; the input reads as it did. -/
def natAddsUptoRow : OpenClaim := { program := "ytafhcchjjlbojaa", sum := "29809584f17047d5de285df1a455e4e2fcfe1032220ecbb143860ecbc064eabb", func := "zellige/zelligelaw03.NatAdds", spec := "natAdds", apart := false, narrowed := true }
def NatAddsUptoSaid : Prop := natAddsUptoRow.holds Try.pinned (OpenSpec.upto natAddsSpec)

/-- 'zelligelaw03.NatBack', WHERE WHAT IT READS IS OF BULK AT MOST 1048576: true; the input reads as it did. -/
def natBackUptoRow : OpenClaim := { program := "ytafhcchjjlbojaa", sum := "29809584f17047d5de285df1a455e4e2fcfe1032220ecbb143860ecbc064eabb", func := "zellige/zelligelaw03.NatBack", spec := "natBack", apart := false, narrowed := true }
def NatBackUptoSaid : Prop := natBackUptoRow.holds Try.pinned (OpenSpec.upto natBackSpec)

end Rows
end Go.Proofs.Ytafhcchjjlbojaa
