/-
  No cell of these rows narrows 'for every input' (looked for: loops, veiled, ifaces, maps, wideKeys, modest, calm, conditions, laid).
  DERIVED. THE GIVEN ROWS OF THIS SEAT. 7 by the template 'for every input the law returns true; each argument reads behind the call as it read before'; 0 by the template 'total and deterministic' (their statements: YtofklpmlgfbmlaaTotals.lean).
  GIVEN WITH THE SEED: the statements are not yours to turn. If you find one false, say at which input.
  Laid BY PROGRAM, IN A SANDBOX (cutbox-rows.mjs): the forced cells as the released guide's own fill.sh prints them over the translation a1cb5a033ba1c625… (all of the seat's roots in one cut). By AI agents, Wed Nov 11 2026. No macro, syntax, notation, axiom, sorry.
-/
import Derived.Test.YtofklpmlgfbmlaaChecked
import GoSem.Claim
import GoSem.ClaimJoined
import GoSem.ClaimMapViews
import Derived.JoinedTies
import Derived.KernelRfl
namespace Go.Proofs.Ytofklpmlgfbmlaa
/- THE CELL 'sum', in the pinned program and in every row, IS THE sha256 OF THE DUMP (.gsa) THAT YtofklpmlgfbmlaaProg.lean LOADS. Nothing in Lean hashes anything: it is a label: what it is worth is what the hold of that sum in a sandbox is worth. -/
noncomputable def Try.pinned : Pinned := { name := "ytofklpmlgfbmlaa", sum := "a1cb5a033ba1c625c570e4f3c1beeebdaee6beefbb929d29ce3e4737279657f0", checked := Try.checked }
namespace Rows
def none {H : Type} : Left H := { results := [], args := [] }

/-- 'zelligelaw04.WholeOf': WHATEVER THE INPUT: true; the input reads as it did. -/
def wholeOfSpec : ChangeSpec := { name := "wholeOf", fn := fun _ => fun
  | [d1, d2] => { results := [.lit (.bool true)], args := [d1, d2] }
  | _ => none }
def wholeOfRow : OpenClaim := { program := "ytofklpmlgfbmlaa", sum := "a1cb5a033ba1c625c570e4f3c1beeebdaee6beefbb929d29ce3e4737279657f0", func := "zellige/zelligelaw04.WholeOf", spec := "wholeOf", inPlace := ["math/bits.Sub64"], apart := false }
def WholeOfSaid : Prop := wholeOfRow.holds Try.pinned (OpenSpec.ofChange wholeOfSpec)

/-- ITS FALSE NEIGHBOUR: 'it returns false'. Refute it at one input. -/
def wholeOfWrong : ChangeSpec := { name := "wholeOf", fn := fun _ => fun
  | [d1, d2] => { results := [.lit (.bool false)], args := [d1, d2] }
  | _ => none }
def WholeOfWrongFalsely : Prop := wholeOfRow.holds Try.pinned (OpenSpec.ofChange wholeOfWrong)

/-- 'zelligelaw20.PolyAreas': WHATEVER THE INPUT: true; the input reads as it did. -/
def polyAreasSpec : ChangeSpec := { name := "polyAreas", fn := fun _ => fun
  | [d] => { results := [.lit (.bool true)], args := [d] }
  | _ => none }
def polyAreasRow : OpenClaim := { program := "ytofklpmlgfbmlaa", sum := "a1cb5a033ba1c625c570e4f3c1beeebdaee6beefbb929d29ce3e4737279657f0", func := "zellige/zelligelaw20.PolyAreas", spec := "polyAreas", unfollowed := true, recurses := true, apart := false }
def PolyAreasSaid : Prop := polyAreasRow.holds Try.pinned (OpenSpec.ofChange polyAreasSpec)

/-- ITS FALSE NEIGHBOUR: 'it returns false'. Refute it at one input. -/
def polyAreasWrong : ChangeSpec := { name := "polyAreas", fn := fun _ => fun
  | [d] => { results := [.lit (.bool false)], args := [d] }
  | _ => none }
def PolyAreasWrongFalsely : Prop := polyAreasRow.holds Try.pinned (OpenSpec.ofChange polyAreasWrong)

/-- 'zelligelaw20.PolyCenters': WHATEVER THE INPUT: true; the input reads as it did. -/
def polyCentersSpec : ChangeSpec := { name := "polyCenters", fn := fun _ => fun
  | [d] => { results := [.lit (.bool true)], args := [d] }
  | _ => none }
def polyCentersRow : OpenClaim := { program := "ytofklpmlgfbmlaa", sum := "a1cb5a033ba1c625c570e4f3c1beeebdaee6beefbb929d29ce3e4737279657f0", func := "zellige/zelligelaw20.PolyCenters", spec := "polyCenters", unfollowed := true, recurses := true, apart := false }
def PolyCentersSaid : Prop := polyCentersRow.holds Try.pinned (OpenSpec.ofChange polyCentersSpec)

/-- ITS FALSE NEIGHBOUR: 'it returns false'. Refute it at one input. -/
def polyCentersWrong : ChangeSpec := { name := "polyCenters", fn := fun _ => fun
  | [d] => { results := [.lit (.bool false)], args := [d] }
  | _ => none }
def PolyCentersWrongFalsely : Prop := polyCentersRow.holds Try.pinned (OpenSpec.ofChange polyCentersWrong)

/-- 'zelligelaw20.PolyInside': WHATEVER THE INPUT: true; the input reads as it did. -/
def polyInsideSpec : ChangeSpec := { name := "polyInside", fn := fun _ => fun
  | [d1, d2] => { results := [.lit (.bool true)], args := [d1, d2] }
  | _ => none }
def polyInsideRow : OpenClaim := { program := "ytofklpmlgfbmlaa", sum := "a1cb5a033ba1c625c570e4f3c1beeebdaee6beefbb929d29ce3e4737279657f0", func := "zellige/zelligelaw20.PolyInside", spec := "polyInside", unfollowed := true, recurses := true, apart := false }
def PolyInsideSaid : Prop := polyInsideRow.holds Try.pinned (OpenSpec.ofChange polyInsideSpec)

/-- ITS FALSE NEIGHBOUR: 'it returns false'. Refute it at one input. -/
def polyInsideWrong : ChangeSpec := { name := "polyInside", fn := fun _ => fun
  | [d1, d2] => { results := [.lit (.bool false)], args := [d1, d2] }
  | _ => none }
def PolyInsideWrongFalsely : Prop := polyInsideRow.holds Try.pinned (OpenSpec.ofChange polyInsideWrong)

/-- 'zelligelaw20.PolyMoves': WHATEVER THE INPUT: true; the input reads as it did. -/
def polyMovesSpec : ChangeSpec := { name := "polyMoves", fn := fun _ => fun
  | [d1, d2, d3] => { results := [.lit (.bool true)], args := [d1, d2, d3] }
  | _ => none }
def polyMovesRow : OpenClaim := { program := "ytofklpmlgfbmlaa", sum := "a1cb5a033ba1c625c570e4f3c1beeebdaee6beefbb929d29ce3e4737279657f0", func := "zellige/zelligelaw20.PolyMoves", spec := "polyMoves", unfollowed := true, recurses := true, apart := false }
def PolyMovesSaid : Prop := polyMovesRow.holds Try.pinned (OpenSpec.ofChange polyMovesSpec)

/-- ITS FALSE NEIGHBOUR: 'it returns false'. Refute it at one input. -/
def polyMovesWrong : ChangeSpec := { name := "polyMoves", fn := fun _ => fun
  | [d1, d2, d3] => { results := [.lit (.bool false)], args := [d1, d2, d3] }
  | _ => none }
def PolyMovesWrongFalsely : Prop := polyMovesRow.holds Try.pinned (OpenSpec.ofChange polyMovesWrong)

/-- 'zelligelaw20.PolyTurns': WHATEVER THE INPUT: true; the input reads as it did. -/
def polyTurnsSpec : ChangeSpec := { name := "polyTurns", fn := fun _ => fun
  | [d1, d2] => { results := [.lit (.bool true)], args := [d1, d2] }
  | _ => none }
def polyTurnsRow : OpenClaim := { program := "ytofklpmlgfbmlaa", sum := "a1cb5a033ba1c625c570e4f3c1beeebdaee6beefbb929d29ce3e4737279657f0", func := "zellige/zelligelaw20.PolyTurns", spec := "polyTurns", unfollowed := true, recurses := true, apart := false }
def PolyTurnsSaid : Prop := polyTurnsRow.holds Try.pinned (OpenSpec.ofChange polyTurnsSpec)

/-- ITS FALSE NEIGHBOUR: 'it returns false'. Refute it at one input. -/
def polyTurnsWrong : ChangeSpec := { name := "polyTurns", fn := fun _ => fun
  | [d1, d2] => { results := [.lit (.bool false)], args := [d1, d2] }
  | _ => none }
def PolyTurnsWrongFalsely : Prop := polyTurnsRow.holds Try.pinned (OpenSpec.ofChange polyTurnsWrong)

/-- 'zelligelaw20.PolyWithin': WHATEVER THE INPUT: true; the input reads as it did. -/
def polyWithinSpec : ChangeSpec := { name := "polyWithin", fn := fun _ => fun
  | [d] => { results := [.lit (.bool true)], args := [d] }
  | _ => none }
def polyWithinRow : OpenClaim := { program := "ytofklpmlgfbmlaa", sum := "a1cb5a033ba1c625c570e4f3c1beeebdaee6beefbb929d29ce3e4737279657f0", func := "zellige/zelligelaw20.PolyWithin", spec := "polyWithin", unfollowed := true, recurses := true, apart := false }
def PolyWithinSaid : Prop := polyWithinRow.holds Try.pinned (OpenSpec.ofChange polyWithinSpec)

/-- ITS FALSE NEIGHBOUR: 'it returns false'. Refute it at one input. -/
def polyWithinWrong : ChangeSpec := { name := "polyWithin", fn := fun _ => fun
  | [d] => { results := [.lit (.bool false)], args := [d] }
  | _ => none }
def PolyWithinWrongFalsely : Prop := polyWithinRow.holds Try.pinned (OpenSpec.ofChange polyWithinWrong)

/- THE SECOND FORM. 'bulk': how many values and letters a reading holds, each counted each time it is reached (what is shared counts as often as it is met; a slice's spare places count too). A statement '..UptoSaid' is the law's where the arguments, and the package variables that the reading takes, are together of bulk at most 1048576: NARROWER than '..Said'. Prove '..Said' where nothing that the law and all that it calls make is longer than what came in: it says more and counts as full. Else prove '..UptoSaid'. A law counts once. -/
mutual
def uptoBulk {H : Type} : DataW H → Nat
  | .lit (.string bytes) => bytes.length + 1
  | .lit _ => 1
  | .nil => 1
  | .ptr d => uptoBulk d + 1
  | .slice elems spare => uptoBulkAll elems + uptoBulkAll spare + 1
  | .agg parts => uptoBulkAll parts + 1
  | .iface _ d => uptoBulk d + 1
  | .map entries => uptoBulkEntries entries + 1
  | .held _ => 1
def uptoBulkAll {H : Type} : List (DataW H) → Nat
  | [] => 0
  | d :: r => uptoBulk d + uptoBulkAll r
def uptoBulkEntries {H : Type} : List (Lit × DataW H) → Nat
  | [] => 0
  | x :: r => uptoBulkEntry x + uptoBulkEntries r
def uptoBulkEntry {H : Type} : Lit × DataW H → Nat
  | (.string bytes, d) => bytes.length + uptoBulk d + 1
  | (_, d) => uptoBulk d + 1
 end
def uptoSmall : (H : Type) → List (DataW H) → Bool := fun _ ds => decide (uptoBulkAll ds ≤ 1048576)
def OpenSpec.upto (s : _root_.Go.ChangeSpec) : _root_.Go.OpenSpec := { _root_.Go.OpenSpec.ofChange s with cond := some uptoSmall }

/-- 'zelligelaw04.WholeOf', WHERE WHAT IT READS IS OF BULK AT MOST 1048576: true; the input reads as it did. -/
def wholeOfUptoRow : OpenClaim := { program := "ytofklpmlgfbmlaa", sum := "a1cb5a033ba1c625c570e4f3c1beeebdaee6beefbb929d29ce3e4737279657f0", func := "zellige/zelligelaw04.WholeOf", spec := "wholeOf", inPlace := ["math/bits.Sub64"], apart := false, narrowed := true }
def WholeOfUptoSaid : Prop := wholeOfUptoRow.holds Try.pinned (OpenSpec.upto wholeOfSpec)

/-- 'zelligelaw20.PolyAreas', WHERE WHAT IT READS IS OF BULK AT MOST 1048576: true; the input reads as it did. -/
def polyAreasUptoRow : OpenClaim := { program := "ytofklpmlgfbmlaa", sum := "a1cb5a033ba1c625c570e4f3c1beeebdaee6beefbb929d29ce3e4737279657f0", func := "zellige/zelligelaw20.PolyAreas", spec := "polyAreas", unfollowed := true, recurses := true, apart := false, narrowed := true }
def PolyAreasUptoSaid : Prop := polyAreasUptoRow.holds Try.pinned (OpenSpec.upto polyAreasSpec)

/-- 'zelligelaw20.PolyCenters', WHERE WHAT IT READS IS OF BULK AT MOST 1048576: true; the input reads as it did. -/
def polyCentersUptoRow : OpenClaim := { program := "ytofklpmlgfbmlaa", sum := "a1cb5a033ba1c625c570e4f3c1beeebdaee6beefbb929d29ce3e4737279657f0", func := "zellige/zelligelaw20.PolyCenters", spec := "polyCenters", unfollowed := true, recurses := true, apart := false, narrowed := true }
def PolyCentersUptoSaid : Prop := polyCentersUptoRow.holds Try.pinned (OpenSpec.upto polyCentersSpec)

/-- 'zelligelaw20.PolyInside', WHERE WHAT IT READS IS OF BULK AT MOST 1048576: true; the input reads as it did. -/
def polyInsideUptoRow : OpenClaim := { program := "ytofklpmlgfbmlaa", sum := "a1cb5a033ba1c625c570e4f3c1beeebdaee6beefbb929d29ce3e4737279657f0", func := "zellige/zelligelaw20.PolyInside", spec := "polyInside", unfollowed := true, recurses := true, apart := false, narrowed := true }
def PolyInsideUptoSaid : Prop := polyInsideUptoRow.holds Try.pinned (OpenSpec.upto polyInsideSpec)

/-- 'zelligelaw20.PolyMoves', WHERE WHAT IT READS IS OF BULK AT MOST 1048576: true; the input reads as it did. -/
def polyMovesUptoRow : OpenClaim := { program := "ytofklpmlgfbmlaa", sum := "a1cb5a033ba1c625c570e4f3c1beeebdaee6beefbb929d29ce3e4737279657f0", func := "zellige/zelligelaw20.PolyMoves", spec := "polyMoves", unfollowed := true, recurses := true, apart := false, narrowed := true }
def PolyMovesUptoSaid : Prop := polyMovesUptoRow.holds Try.pinned (OpenSpec.upto polyMovesSpec)

/-- 'zelligelaw20.PolyTurns', WHERE WHAT IT READS IS OF BULK AT MOST 1048576: true; the input reads as it did. -/
def polyTurnsUptoRow : OpenClaim := { program := "ytofklpmlgfbmlaa", sum := "a1cb5a033ba1c625c570e4f3c1beeebdaee6beefbb929d29ce3e4737279657f0", func := "zellige/zelligelaw20.PolyTurns", spec := "polyTurns", unfollowed := true, recurses := true, apart := false, narrowed := true }
def PolyTurnsUptoSaid : Prop := polyTurnsUptoRow.holds Try.pinned (OpenSpec.upto polyTurnsSpec)

/-- 'zelligelaw20.PolyWithin', WHERE WHAT IT READS IS OF BULK AT MOST 1048576: true; the input reads as it did. -/
def polyWithinUptoRow : OpenClaim := { program := "ytofklpmlgfbmlaa", sum := "a1cb5a033ba1c625c570e4f3c1beeebdaee6beefbb929d29ce3e4737279657f0", func := "zellige/zelligelaw20.PolyWithin", spec := "polyWithin", unfollowed := true, recurses := true, apart := false, narrowed := true }
def PolyWithinUptoSaid : Prop := polyWithinUptoRow.holds Try.pinned (OpenSpec.upto polyWithinSpec)

end Rows
end Go.Proofs.Ytofklpmlgfbmlaa
