/-
  DERIVED. GIVEN WITH THE SEED: THE CARDS: each row of YtmfmojldebhboaaDoorRows.lean that lists a variable, with what it lists TIED to the program's text (the seventh form; the later family's looks); each row that meets fmt, with fmt's text TOLD by the authors' own Lean function (tested against real Go, not proved from fmt's source: count such statements apart). THE CARD IS WHAT COUNTS. Prove the row's statement (the work); the ties are given (YtmfmojldebhboaaDoorTie.lean); close each card by the builder's one call (the guide's Derived/Test/ToyasCard.lean, 'card_holds'). Laid BY PROGRAM, IN A SANDBOX (cutbox-door.mjs). By AI agents, Wed Nov 11 2026. No macro, syntax, notation, axiom, sorry.
-/
import Derived.Test.YtmfmojldebhboaaDoorRows
import GoSem.ClaimSeven
namespace Go.Proofs.YtmfmojldebhboaaDoor
namespace Rows

/-- THE TIED CARD OF 'zelligelaw23.PointsShows'. -/
def pointsShowsCard : Claim7 := { stood := { row := pointsShowsRow, standIns := [], harness := (true, "981d05fcc7b8781b8192ab4874ae5256b39289559de7fffc553c43e4ea8b8298"), looks := false }, kinds := [], alts := [], laidByText := true, laidKinds := [.data, .data, .data], laidTests := true, laidLooks := .later }
def PointsShowsCardSaid : Prop := Claim7.holds Tryd.pinned (.plain (OpenSpec.ofChange pointsShowsSpec)) pointsShowsCard

/-- THE TIED CARD OF 'zelligelaw24.FileShows'. -/
def fileShowsCard : Claim7 := { stood := { row := fileShowsRow, standIns := [], harness := (true, "981d05fcc7b8781b8192ab4874ae5256b39289559de7fffc553c43e4ea8b8298"), looks := false }, kinds := [], alts := [], laidByText := true, laidKinds := [.data, .data, .data], laidTests := true, laidLooks := .later }
def FileShowsCardSaid : Prop := Claim7.holds Tryd.pinned (.plain (OpenSpec.ofChange fileShowsSpec)) fileShowsCard

/-- THE SECOND FORM's CARD OF 'zelligelaw23.PointsShows'. -/
def pointsShowsUptoCard : Claim7 := { stood := { row := pointsShowsUptoRow, standIns := [], harness := (true, "981d05fcc7b8781b8192ab4874ae5256b39289559de7fffc553c43e4ea8b8298"), looks := false }, kinds := [], alts := [], laidByText := true, laidKinds := [.data, .data, .data], laidTests := true, laidLooks := .later }
def PointsShowsUptoCardSaid : Prop := Claim7.holds Tryd.pinned (.plain (OpenSpec.upto pointsShowsSpec)) pointsShowsUptoCard

/-- THE SECOND FORM's CARD OF 'zelligelaw24.FileShows'. -/
def fileShowsUptoCard : Claim7 := { stood := { row := fileShowsUptoRow, standIns := [], harness := (true, "981d05fcc7b8781b8192ab4874ae5256b39289559de7fffc553c43e4ea8b8298"), looks := false }, kinds := [], alts := [], laidByText := true, laidKinds := [.data, .data, .data], laidTests := true, laidLooks := .later }
def FileShowsUptoCardSaid : Prop := Claim7.holds Tryd.pinned (.plain (OpenSpec.upto fileShowsSpec)) fileShowsUptoCard
end Rows
end Go.Proofs.YtmfmojldebhboaaDoor
