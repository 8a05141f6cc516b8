/- Twice any polygon's area is as the document says. -/
import Derived.Test.YtofklpmlgfbmlaaC10
import Derived.Test.YtofklpmlgfbmlaaC11
import Derived.Test.YtofklpmlgfbmlaaC12
import Derived.Test.YtofklpmlgfbmlaaC8
import Derived.Test.YtofklpmlgfbmlaaC9
set_option linter.unusedVariables false
set_option linter.unusedSimpArgs false
namespace Go.Proofs.Ytofklpmlgfbmlaa.ZRat
open Go.RowKit Go.Proofs.Ytofklpmlgfbmlaa.Wd
open Go Go.Proofs.Ytofklpmlgfbmlaa.Ab Go.Proofs Go.Proofs.Ytofklpmlgfbmlaa.Num Go.Proofs.Ytofklpmlgfbmlaa.ZRatP
set_option linter.unusedSimpArgs false
set_option linter.unusedVariables false
set_option maxHeartbeats 8000000
set_option maxRecDepth 100000
noncomputable def E_PolyAreas : Env := mkS [(17, Pfew), (19, PArea2), (21, GAll), (20, GArea), (18, FSame), (22, L20lives)] [] []
theorem run_PolyAreas (r0 : List RS) (w0 : ∀ p ∈ r0, wbS p) : AEnds E_PolyAreas (finW Try.prog Try.f4.results) 0 [.code (Try.f4.body.getD .skip)] (startA Try.f4 [rowS r0] [] []) (.bool true) := by
  obtain ⟨okR, lnR⟩ := few_ok w0
  have dU := rowU r0
  unfold rowS
  obtain ⟨R, hR⟩ : ∃ R, fewS r0 = R := ⟨_, rfl⟩
  rw [hR] at okR lnR
  have lnR8 : R.length ≤ 8 := by omega
  have d9 := row9 okR lnR8 (by omega)
  have dG := rowG okR lnR8
  haveI zA := areaW okR lnR8
  obtain ⟨zX, zY⟩ := centW okR lnR8
  generalize hA : areaQ (R.map valS) = A at *
  simp only [Try.f4, Option.getD_some, startA]
  simp (maxSteps := 4000000) (disch := (first | with_reducible rfl | assumption | with_reducible exact WB_NB _ _ | (with_reducible refine nb_le ?_; omega) | (with_reducible refine nb16_le ?_; omega) | omega | (simp only [List.length_append, List.length_map, List.length_cons, List.length_nil, List.length_set, List.length_replicate, List.length_take, List.size_toArray]; omega))) [E_PolyAreas, dU, hR, d9, dG, hA, den_ne, den_pos', Rat.den_pos, rden, mkSelf, Rat.mkRat_self, rowS, rowR, -Int.sign_mul, -Int.sign_neg, -Int.natAbs_neg]
theorem law_PolyAreas (r0 : List RS) (w0 : ∀ p ∈ r0, wbS p) : OkV Try.prog 4 [rowS r0] (.bool true) :=
  okW_ends (mkS_ok (alls_cons sPfew (alls_cons sPArea2 (alls_cons sGAll (alls_cons sGArea (alls_cons sFSame (alls_cons sL20lives alls_nil))))))) mixed Try.func4 rfl (by kernel_rfl : Fits Try.prog E_PolyAreas.ref E_PolyAreas.dep Try.f4 = true) (run_PolyAreas r0 w0)
end Go.Proofs.Ytofklpmlgfbmlaa.ZRat
