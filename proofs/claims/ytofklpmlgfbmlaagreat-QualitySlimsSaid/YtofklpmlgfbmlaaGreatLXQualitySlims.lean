/- Which triangles are slim is as the document says. -/
import Derived.Test.YtofklpmlgfbmlaaGreatC16
import Derived.Test.YtofklpmlgfbmlaaGreatC17
import Derived.Test.YtofklpmlgfbmlaaGreatC22
import Derived.Test.YtofklpmlgfbmlaaGreatC24
import Derived.Test.YtofklpmlgfbmlaaGreatC8
import Derived.Test.YtofklpmlgfbmlaaGreatC9
set_option linter.unusedVariables false
set_option linter.unusedSimpArgs false
namespace Go.Proofs.YtofklpmlgfbmlaaGreat.ZRat
open Go.RowKit Go.Proofs.YtofklpmlgfbmlaaGreat.Wd
open Go Go.Proofs.YtofklpmlgfbmlaaGreat.Ab Go.Proofs Go.Proofs.YtofklpmlgfbmlaaGreat.Num Go.Proofs.YtofklpmlgfbmlaaGreat.ZRatP
set_option linter.unusedSimpArgs false
set_option linter.unusedVariables false
set_option maxHeartbeats 8000000
set_option maxRecDepth 100000
noncomputable def E_QualitySlims : Env := mkS [(37, QSlim), (38, QSin2), (28, RTurns), (21, FSame), (22, FLong), (39, RSlim), (36, RSin2), (29, L35lives)] [] []
theorem run_QualitySlims (x0 y0 : Int) (c0 : (-9223372036854775808 ≤ x0 ∧ x0 < 9223372036854775808) ∧ (-9223372036854775808 ≤ y0 ∧ y0 < 9223372036854775808)) (x1 y1 : Int) (c1 : (-9223372036854775808 ≤ x1 ∧ x1 < 9223372036854775808) ∧ (-9223372036854775808 ≤ y1 ∧ y1 < 9223372036854775808)) (x2 y2 : Int) (c2 : (-9223372036854775808 ≤ x2 ∧ x2 < 9223372036854775808) ∧ (-9223372036854775808 ≤ y2 ∧ y2 < 9223372036854775808)) : AEnds E_QualitySlims (finW Tryz.prog Tryz.f9.results) 0 [.code (Tryz.f9.body.getD .skip)] (startA Tryz.f9 [.agg [.int .i64 x0, .int .i64 y0], .agg [.int .i64 x1, .int .i64 y1], .agg [.int .i64 x2, .int .i64 y2]] [] []) (.bool true) := by
  obtain ⟨hx0, hy0⟩ := c0
  obtain ⟨hx1, hy1⟩ := c1
  obtain ⟨hx2, hy2⟩ := c2
  simp only [Tryz.f9, Option.getD_some, startA]
  by_cases h : turnC x0 y0 x1 y1 x2 y2
  · haveI q1 := szSlim h.1
    haveI q2 := szSin h.1
    generalize hT : slimZ x0 y0 x1 y1 x2 y2 = T at *
    generalize hU : sinZ x0 y0 x1 y1 x2 y2 = U at *
    simp (maxSteps := 4000000) (disch := (first | with_reducible rfl | assumption | with_reducible exact WB_NB _ _ | (with_reducible refine nb_le ?_; omega) | (with_reducible refine nb16_le ?_; omega) | omega | (simp only [List.length_append, List.length_map, List.length_cons, List.length_nil, List.length_set, List.length_replicate, List.length_take, List.size_toArray]; omega))) [E_QualitySlims, h, hT, hU, hx0, hy0, hx1, hy1, hx2, hy2, rden, den_ne, Rat.mkRat_self, -Int.sign_mul, -Int.sign_neg, -Int.natAbs_neg]
  · simp (maxSteps := 4000000) (disch := (first | with_reducible rfl | assumption | with_reducible exact WB_NB _ _ | (with_reducible refine nb_le ?_; omega) | (with_reducible refine nb16_le ?_; omega) | omega | (simp only [List.length_append, List.length_map, List.length_cons, List.length_nil, List.length_set, List.length_replicate, List.length_take, List.size_toArray]; omega))) [E_QualitySlims, h, hx0, hy0, hx1, hy1, hx2, hy2, Rat.zero_mkRat, -Int.sign_mul, -Int.sign_neg, -Int.natAbs_neg]
theorem law_QualitySlims (x0 y0 : Int) (c0 : (-9223372036854775808 ≤ x0 ∧ x0 < 9223372036854775808) ∧ (-9223372036854775808 ≤ y0 ∧ y0 < 9223372036854775808)) (x1 y1 : Int) (c1 : (-9223372036854775808 ≤ x1 ∧ x1 < 9223372036854775808) ∧ (-9223372036854775808 ≤ y1 ∧ y1 < 9223372036854775808)) (x2 y2 : Int) (c2 : (-9223372036854775808 ≤ x2 ∧ x2 < 9223372036854775808) ∧ (-9223372036854775808 ≤ y2 ∧ y2 < 9223372036854775808)) : OkV Tryz.prog 9 [.agg [.int .i64 x0, .int .i64 y0], .agg [.int .i64 x1, .int .i64 y1], .agg [.int .i64 x2, .int .i64 y2]] (.bool true) :=
  okW_ends (mkS_ok (alls_cons sQSlim (alls_cons sQSin2 (alls_cons sRTurns (alls_cons sFSame (alls_cons sFLong (alls_cons sRSlim (alls_cons sRSin2 (alls_cons sL35lives alls_nil))))))))) mixed Tryz.func9 rfl (by kernel_rfl : Fits Tryz.prog E_QualitySlims.ref E_QualitySlims.dep Tryz.f9 = true) (run_QualitySlims x0 y0 c0 x1 y1 c1 x2 y2 c2)
end Go.Proofs.YtofklpmlgfbmlaaGreat.ZRat
