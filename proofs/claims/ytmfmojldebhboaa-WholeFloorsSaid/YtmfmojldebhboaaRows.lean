/-
  No cell of these rows narrows 'for every input' (looked for: loops, veiled, ifaces, maps, wideKeys, modest, calm, conditions, laid).
  DERIVED. THE GIVEN ROWS OF THIS SEAT. 8 by the template 'for every input the law returns true; each argument reads behind the call as it read before'; 0 by the template 'total and deterministic' (their statements: YtmfmojldebhboaaTotals.lean).
  GIVEN WITH THE SEED: the statements are not yours to turn. If you find one false, say at which input.
  Laid BY PROGRAM, IN A SANDBOX (cutbox-rows.mjs): the forced cells as the released guide's own fill.sh prints them over the translation 92da251f2fe2cccb… (all of the seat's roots in one cut). By AI agents, Wed Nov 11 2026. No macro, syntax, notation, axiom, sorry.
-/
import Derived.Test.YtmfmojldebhboaaChecked
import GoSem.Claim
import GoSem.ClaimJoined
import GoSem.ClaimMapViews
import Derived.JoinedTies
import Derived.KernelRfl
namespace Go.Proofs.Ytmfmojldebhboaa
/- THE CELL 'sum', in the pinned program and in every row, IS THE sha256 OF THE DUMP (.gsa) THAT YtmfmojldebhboaaProg.lean LOADS. Nothing in Lean hashes anything: it is a label: what it is worth is what the hold of that sum in a sandbox is worth. -/
noncomputable def Try.pinned : Pinned := { name := "ytmfmojldebhboaa", sum := "92da251f2fe2cccbc58c748504a90beccf60b403a183fc8b7de566bc58ec0484", checked := Try.checked }
namespace Rows
def none {H : Type} : Left H := { results := [], args := [] }

/-- 'zelligelaw04.WholeFloors': WHATEVER THE INPUT: true; the input reads as it did. -/
def wholeFloorsSpec : ChangeSpec := { name := "wholeFloors", fn := fun _ => fun
  | [d1, d2] => { results := [.lit (.bool true)], args := [d1, d2] }
  | _ => none }
def wholeFloorsRow : OpenClaim := { program := "ytmfmojldebhboaa", sum := "92da251f2fe2cccbc58c748504a90beccf60b403a183fc8b7de566bc58ec0484", func := "zellige/zelligelaw04.WholeFloors", spec := "wholeFloors", plainKeys := false, apart := false }
def WholeFloorsSaid : Prop := wholeFloorsRow.holds Try.pinned (OpenSpec.ofChange wholeFloorsSpec)

/-- ITS FALSE NEIGHBOUR: 'it returns false'. Refute it at one input. -/
def wholeFloorsWrong : ChangeSpec := { name := "wholeFloors", fn := fun _ => fun
  | [d1, d2] => { results := [.lit (.bool false)], args := [d1, d2] }
  | _ => none }
def WholeFloorsWrongFalsely : Prop := wholeFloorsRow.holds Try.pinned (OpenSpec.ofChange wholeFloorsWrong)

/-- 'zelligelaw04.WholeAdds': WHATEVER THE INPUT: true; the input reads as it did. -/
def wholeAddsSpec : ChangeSpec := { name := "wholeAdds", fn := fun _ => fun
  | [d1, d2] => { results := [.lit (.bool true)], args := [d1, d2] }
  | _ => none }
def wholeAddsRow : OpenClaim := { program := "ytmfmojldebhboaa", sum := "92da251f2fe2cccbc58c748504a90beccf60b403a183fc8b7de566bc58ec0484", func := "zellige/zelligelaw04.WholeAdds", spec := "wholeAdds", plainKeys := false, apart := false }
def WholeAddsSaid : Prop := wholeAddsRow.holds Try.pinned (OpenSpec.ofChange wholeAddsSpec)

/-- ITS FALSE NEIGHBOUR: 'it returns false'. Refute it at one input. -/
def wholeAddsWrong : ChangeSpec := { name := "wholeAdds", fn := fun _ => fun
  | [d1, d2] => { results := [.lit (.bool false)], args := [d1, d2] }
  | _ => none }
def WholeAddsWrongFalsely : Prop := wholeAddsRow.holds Try.pinned (OpenSpec.ofChange wholeAddsWrong)

/-- 'zelligelaw04.WholeOrders': WHATEVER THE INPUT: true; the input reads as it did. -/
def wholeOrdersSpec : ChangeSpec := { name := "wholeOrders", fn := fun _ => fun
  | [d1, d2] => { results := [.lit (.bool true)], args := [d1, d2] }
  | _ => none }
def wholeOrdersRow : OpenClaim := { program := "ytmfmojldebhboaa", sum := "92da251f2fe2cccbc58c748504a90beccf60b403a183fc8b7de566bc58ec0484", func := "zellige/zelligelaw04.WholeOrders", spec := "wholeOrders", plainKeys := false, apart := false }
def WholeOrdersSaid : Prop := wholeOrdersRow.holds Try.pinned (OpenSpec.ofChange wholeOrdersSpec)

/-- ITS FALSE NEIGHBOUR: 'it returns false'. Refute it at one input. -/
def wholeOrdersWrong : ChangeSpec := { name := "wholeOrders", fn := fun _ => fun
  | [d1, d2] => { results := [.lit (.bool false)], args := [d1, d2] }
  | _ => none }
def WholeOrdersWrongFalsely : Prop := wholeOrdersRow.holds Try.pinned (OpenSpec.ofChange wholeOrdersWrong)

/-- 'zelligelaw04.WholeRings': WHATEVER THE INPUT: true; the input reads as it did. -/
def wholeRingsSpec : ChangeSpec := { name := "wholeRings", fn := fun _ => fun
  | [d1, d2, d3] => { results := [.lit (.bool true)], args := [d1, d2, d3] }
  | _ => none }
def wholeRingsRow : OpenClaim := { program := "ytmfmojldebhboaa", sum := "92da251f2fe2cccbc58c748504a90beccf60b403a183fc8b7de566bc58ec0484", func := "zellige/zelligelaw04.WholeRings", spec := "wholeRings", plainKeys := false, apart := false }
def WholeRingsSaid : Prop := wholeRingsRow.holds Try.pinned (OpenSpec.ofChange wholeRingsSpec)

/-- ITS FALSE NEIGHBOUR: 'it returns false'. Refute it at one input. -/
def wholeRingsWrong : ChangeSpec := { name := "wholeRings", fn := fun _ => fun
  | [d1, d2, d3] => { results := [.lit (.bool false)], args := [d1, d2, d3] }
  | _ => none }
def WholeRingsWrongFalsely : Prop := wholeRingsRow.holds Try.pinned (OpenSpec.ofChange wholeRingsWrong)

/-- 'zelligelaw04.WholeShows': WHATEVER THE INPUT: true; the input reads as it did. -/
def wholeShowsSpec : ChangeSpec := { name := "wholeShows", fn := fun _ => fun
  | [d] => { results := [.lit (.bool true)], args := [d] }
  | _ => none }
def wholeShowsRow : OpenClaim := { program := "ytmfmojldebhboaa", sum := "92da251f2fe2cccbc58c748504a90beccf60b403a183fc8b7de566bc58ec0484", func := "zellige/zelligelaw04.WholeShows", spec := "wholeShows", plainKeys := false, apart := false }
def WholeShowsSaid : Prop := wholeShowsRow.holds Try.pinned (OpenSpec.ofChange wholeShowsSpec)

/-- ITS FALSE NEIGHBOUR: 'it returns false'. Refute it at one input. -/
def wholeShowsWrong : ChangeSpec := { name := "wholeShows", fn := fun _ => fun
  | [d] => { results := [.lit (.bool false)], args := [d] }
  | _ => none }
def WholeShowsWrongFalsely : Prop := wholeShowsRow.holds Try.pinned (OpenSpec.ofChange wholeShowsWrong)

/-- 'zelligelaw04.WholeParses': WHATEVER THE INPUT: true; the input reads as it did. -/
def wholeParsesSpec : ChangeSpec := { name := "wholeParses", fn := fun _ => fun
  | [d] => { results := [.lit (.bool true)], args := [d] }
  | _ => none }
def wholeParsesRow : OpenClaim := { program := "ytmfmojldebhboaa", sum := "92da251f2fe2cccbc58c748504a90beccf60b403a183fc8b7de566bc58ec0484", func := "zellige/zelligelaw04.WholeParses", spec := "wholeParses", plainKeys := false, apart := false }
def WholeParsesSaid : Prop := wholeParsesRow.holds Try.pinned (OpenSpec.ofChange wholeParsesSpec)

/-- ITS FALSE NEIGHBOUR: 'it returns false'. Refute it at one input. -/
def wholeParsesWrong : ChangeSpec := { name := "wholeParses", fn := fun _ => fun
  | [d] => { results := [.lit (.bool false)], args := [d] }
  | _ => none }
def WholeParsesWrongFalsely : Prop := wholeParsesRow.holds Try.pinned (OpenSpec.ofChange wholeParsesWrong)

/-- 'zelligelaw04.WholeOf': WHATEVER THE INPUT: true; the input reads as it did. -/
def wholeOfSpec : ChangeSpec := { name := "wholeOf", fn := fun _ => fun
  | [d1, d2] => { results := [.lit (.bool true)], args := [d1, d2] }
  | _ => none }
def wholeOfRow : OpenClaim := { program := "ytmfmojldebhboaa", sum := "92da251f2fe2cccbc58c748504a90beccf60b403a183fc8b7de566bc58ec0484", func := "zellige/zelligelaw04.WholeOf", spec := "wholeOf", inPlace := ["math/bits.Sub64"], plainKeys := false, apart := false }
def WholeOfSaid : Prop := wholeOfRow.holds Try.pinned (OpenSpec.ofChange wholeOfSpec)

/-- ITS FALSE NEIGHBOUR: 'it returns false'. Refute it at one input. -/
def wholeOfWrong : ChangeSpec := { name := "wholeOf", fn := fun _ => fun
  | [d1, d2] => { results := [.lit (.bool false)], args := [d1, d2] }
  | _ => none }
def WholeOfWrongFalsely : Prop := wholeOfRow.holds Try.pinned (OpenSpec.ofChange wholeOfWrong)

/-- 'zelligelaw23.PointsSites': WHATEVER THE INPUT: true; the input reads as it did. -/
def pointsSitesSpec : ChangeSpec := { name := "pointsSites", fn := fun _ => fun
  | [d1, d2] => { results := [.lit (.bool true)], args := [d1, d2] }
  | _ => none }
def pointsSitesRow : OpenClaim := { program := "ytmfmojldebhboaa", sum := "92da251f2fe2cccbc58c748504a90beccf60b403a183fc8b7de566bc58ec0484", func := "zellige/zelligelaw23.PointsSites", spec := "pointsSites", unfollowed := true, recurses := true, plainKeys := false, apart := false }
def PointsSitesSaid : Prop := pointsSitesRow.holds Try.pinned (OpenSpec.ofChange pointsSitesSpec)

/-- ITS FALSE NEIGHBOUR: 'it returns false'. Refute it at one input. -/
def pointsSitesWrong : ChangeSpec := { name := "pointsSites", fn := fun _ => fun
  | [d1, d2] => { results := [.lit (.bool false)], args := [d1, d2] }
  | _ => none }
def PointsSitesWrongFalsely : Prop := pointsSitesRow.holds Try.pinned (OpenSpec.ofChange pointsSitesWrong)

/- THE SECOND FORM. 'bulk': how many values and letters a reading holds, each counted each time it is reached (what is shared counts as often as it is met; a slice's spare places count too). A statement '..UptoSaid' is the law's where the arguments, and the package variables that the reading takes, are together of bulk at most 1048576: NARROWER than '..Said'. Prove '..Said' where nothing that the law and all that it calls make is longer than what came in: it says more and counts as full. Else prove '..UptoSaid'. A law counts once. -/
mutual
def uptoBulk {H : Type} : DataW H → Nat
  | .lit (.string bytes) => bytes.length + 1
  | .lit _ => 1
  | .nil => 1
  | .ptr d => uptoBulk d + 1
  | .slice elems spare => uptoBulkAll elems + uptoBulkAll spare + 1
  | .agg parts => uptoBulkAll parts + 1
  | .iface _ d => uptoBulk d + 1
  | .map entries => uptoBulkEntries entries + 1
  | .held _ => 1
def uptoBulkAll {H : Type} : List (DataW H) → Nat
  | [] => 0
  | d :: r => uptoBulk d + uptoBulkAll r
def uptoBulkEntries {H : Type} : List (Lit × DataW H) → Nat
  | [] => 0
  | x :: r => uptoBulkEntry x + uptoBulkEntries r
def uptoBulkEntry {H : Type} : Lit × DataW H → Nat
  | (.string bytes, d) => bytes.length + uptoBulk d + 1
  | (_, d) => uptoBulk d + 1
 end
def uptoSmall : (H : Type) → List (DataW H) → Bool := fun _ ds => decide (uptoBulkAll ds ≤ 1048576)
def OpenSpec.upto (s : _root_.Go.ChangeSpec) : _root_.Go.OpenSpec := { _root_.Go.OpenSpec.ofChange s with cond := some uptoSmall }

/-- 'zelligelaw04.WholeFloors', WHERE WHAT IT READS IS OF BULK AT MOST 1048576: true; the input reads as it did. -/
def wholeFloorsUptoRow : OpenClaim := { program := "ytmfmojldebhboaa", sum := "92da251f2fe2cccbc58c748504a90beccf60b403a183fc8b7de566bc58ec0484", func := "zellige/zelligelaw04.WholeFloors", spec := "wholeFloors", plainKeys := false, apart := false, narrowed := true }
def WholeFloorsUptoSaid : Prop := wholeFloorsUptoRow.holds Try.pinned (OpenSpec.upto wholeFloorsSpec)

/-- 'zelligelaw04.WholeAdds', WHERE WHAT IT READS IS OF BULK AT MOST 1048576: true; the input reads as it did. -/
def wholeAddsUptoRow : OpenClaim := { program := "ytmfmojldebhboaa", sum := "92da251f2fe2cccbc58c748504a90beccf60b403a183fc8b7de566bc58ec0484", func := "zellige/zelligelaw04.WholeAdds", spec := "wholeAdds", plainKeys := false, apart := false, narrowed := true }
def WholeAddsUptoSaid : Prop := wholeAddsUptoRow.holds Try.pinned (OpenSpec.upto wholeAddsSpec)

/-- 'zelligelaw04.WholeOrders', WHERE WHAT IT READS IS OF BULK AT MOST 1048576: true; the input reads as it did. -/
def wholeOrdersUptoRow : OpenClaim := { program := "ytmfmojldebhboaa", sum := "92da251f2fe2cccbc58c748504a90beccf60b403a183fc8b7de566bc58ec0484", func := "zellige/zelligelaw04.WholeOrders", spec := "wholeOrders", plainKeys := false, apart := false, narrowed := true }
def WholeOrdersUptoSaid : Prop := wholeOrdersUptoRow.holds Try.pinned (OpenSpec.upto wholeOrdersSpec)

/-- 'zelligelaw04.WholeRings', WHERE WHAT IT READS IS OF BULK AT MOST 1048576: true; the input reads as it did. -/
def wholeRingsUptoRow : OpenClaim := { program := "ytmfmojldebhboaa", sum := "92da251f2fe2cccbc58c748504a90beccf60b403a183fc8b7de566bc58ec0484", func := "zellige/zelligelaw04.WholeRings", spec := "wholeRings", plainKeys := false, apart := false, narrowed := true }
def WholeRingsUptoSaid : Prop := wholeRingsUptoRow.holds Try.pinned (OpenSpec.upto wholeRingsSpec)

/-- 'zelligelaw04.WholeShows', WHERE WHAT IT READS IS OF BULK AT MOST 1048576: true; the input reads as it did. -/
def wholeShowsUptoRow : OpenClaim := { program := "ytmfmojldebhboaa", sum := "92da251f2fe2cccbc58c748504a90beccf60b403a183fc8b7de566bc58ec0484", func := "zellige/zelligelaw04.WholeShows", spec := "wholeShows", plainKeys := false, apart := false, narrowed := true }
def WholeShowsUptoSaid : Prop := wholeShowsUptoRow.holds Try.pinned (OpenSpec.upto wholeShowsSpec)

/-- 'zelligelaw04.WholeParses', WHERE WHAT IT READS IS OF BULK AT MOST 1048576: true; the input reads as it did. -/
def wholeParsesUptoRow : OpenClaim := { program := "ytmfmojldebhboaa", sum := "92da251f2fe2cccbc58c748504a90beccf60b403a183fc8b7de566bc58ec0484", func := "zellige/zelligelaw04.WholeParses", spec := "wholeParses", plainKeys := false, apart := false, narrowed := true }
def WholeParsesUptoSaid : Prop := wholeParsesUptoRow.holds Try.pinned (OpenSpec.upto wholeParsesSpec)

/-- 'zelligelaw04.WholeOf', WHERE WHAT IT READS IS OF BULK AT MOST 1048576: true; the input reads as it did. -/
def wholeOfUptoRow : OpenClaim := { program := "ytmfmojldebhboaa", sum := "92da251f2fe2cccbc58c748504a90beccf60b403a183fc8b7de566bc58ec0484", func := "zellige/zelligelaw04.WholeOf", spec := "wholeOf", inPlace := ["math/bits.Sub64"], plainKeys := false, apart := false, narrowed := true }
def WholeOfUptoSaid : Prop := wholeOfUptoRow.holds Try.pinned (OpenSpec.upto wholeOfSpec)

/-- 'zelligelaw23.PointsSites', WHERE WHAT IT READS IS OF BULK AT MOST 1048576: true; the input reads as it did. -/
def pointsSitesUptoRow : OpenClaim := { program := "ytmfmojldebhboaa", sum := "92da251f2fe2cccbc58c748504a90beccf60b403a183fc8b7de566bc58ec0484", func := "zellige/zelligelaw23.PointsSites", spec := "pointsSites", unfollowed := true, recurses := true, plainKeys := false, apart := false, narrowed := true }
def PointsSitesUptoSaid : Prop := pointsSitesUptoRow.holds Try.pinned (OpenSpec.upto pointsSitesSpec)

end Rows
end Go.Proofs.Ytmfmojldebhboaa
