/- Any polygon's center of weight is as the document says, or there is none. -/
import Derived.Test.YtofklpmlgfbmlaaC10
import Derived.Test.YtofklpmlgfbmlaaC11
import Derived.Test.YtofklpmlgfbmlaaC12
import Derived.Test.YtofklpmlgfbmlaaC8
set_option linter.unusedVariables false
set_option linter.unusedSimpArgs false
namespace Go.Proofs.Ytofklpmlgfbmlaa.ZRat
open Go.RowKit Go.Proofs.Ytofklpmlgfbmlaa.Wd
open Go Go.Proofs.Ytofklpmlgfbmlaa.Ab Go.Proofs Go.Proofs.Ytofklpmlgfbmlaa.Num Go.Proofs.Ytofklpmlgfbmlaa.ZRatP
set_option linter.unusedSimpArgs false
set_option linter.unusedVariables false
set_option maxHeartbeats 8000000
set_option maxRecDepth 100000
noncomputable def E_PolyCenters : Env := mkS [(17, Pfew), (23, PCent), (21, GAll), (24, GCent), (25, RSame9), (22, L20lives)] [] []
theorem run_PolyCenters (r0 : List RS) (w0 : ∀ p ∈ r0, wbS p) : AEnds E_PolyCenters (finW Try.prog Try.f5.results) 0 [.code (Try.f5.body.getD .skip)] (startA Try.f5 [rowS r0] [] []) (.bool true) := by
  obtain ⟨okR, lnR⟩ := few_ok w0
  have dU := rowU r0
  unfold rowS
  obtain ⟨R, hR⟩ : ∃ R, fewS r0 = R := ⟨_, rfl⟩
  rw [hR] at okR lnR
  have lnR8 : R.length ≤ 8 := by omega
  have d9 := row9 okR lnR8 (by omega)
  have dG := rowG okR lnR8
  haveI zA := areaW okR lnR8
  obtain ⟨zX, zY⟩ := centW okR lnR8
  generalize hA : areaQ (R.map valS) = A at *
  simp only [Try.f5, Option.getD_some, startA]
  by_cases h0 : A = 0
  · simp (maxSteps := 4000000) (disch := (first | with_reducible rfl | assumption | with_reducible exact WB_NB _ _ | (with_reducible refine nb_le ?_; omega) | (with_reducible refine nb16_le ?_; omega) | omega | (simp only [List.length_append, List.length_map, List.length_cons, List.length_nil, List.length_set, List.length_replicate, List.length_take, List.size_toArray]; omega))) [E_PolyCenters, dU, hR, d9, dG, hA, h0, den_ne, den_pos', Rat.den_pos, rden, mkSelf, Rat.mkRat_self, rowS, rowR, Rat.zero_mkRat, -Int.sign_mul, -Int.sign_neg, -Int.natAbs_neg]
  · generalize hC : centQ (R.map valS) = C at *
    obtain ⟨cx, cy⟩ := C
    simp only at zX zY
    simp (maxSteps := 4000000) (disch := (first | with_reducible rfl | assumption | with_reducible exact WB_NB _ _ | (with_reducible refine nb_le ?_; omega) | (with_reducible refine nb16_le ?_; omega) | omega | (simp only [List.length_append, List.length_map, List.length_cons, List.length_nil, List.length_set, List.length_replicate, List.length_take, List.size_toArray]; omega))) [E_PolyCenters, dU, hR, d9, dG, hA, h0, hC, cellsR, den_ne, den_pos', Rat.den_pos, rden, mkSelf, Rat.mkRat_self, rowS, rowR, -Int.sign_mul, -Int.sign_neg, -Int.natAbs_neg]
theorem law_PolyCenters (r0 : List RS) (w0 : ∀ p ∈ r0, wbS p) : OkV Try.prog 5 [rowS r0] (.bool true) :=
  okW_ends (mkS_ok (alls_cons sPfew (alls_cons sPCent (alls_cons sGAll (alls_cons sGCent (alls_cons sRSame9 (alls_cons sL20lives alls_nil))))))) mixed Try.func5 rfl (by kernel_rfl : Fits Try.prog E_PolyCenters.ref E_PolyCenters.dep Try.f5 = true) (run_PolyCenters r0 w0)
end Go.Proofs.Ytofklpmlgfbmlaa.ZRat
