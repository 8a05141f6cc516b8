/- A shape's quarter of a side is as the document says. -/
import Derived.Test.YtofklpmlgfbmlaaGreatC17
import Derived.Test.YtofklpmlgfbmlaaGreatC22
import Derived.Test.YtofklpmlgfbmlaaGreatC8
import Derived.Test.YtofklpmlgfbmlaaGreatC9
set_option linter.unusedVariables false
set_option linter.unusedSimpArgs false
namespace Go.Proofs.YtofklpmlgfbmlaaGreat.ZRat
open Go.RowKit Go.Proofs.YtofklpmlgfbmlaaGreat.Wd
open Go Go.Proofs.YtofklpmlgfbmlaaGreat.Ab Go.Proofs Go.Proofs.YtofklpmlgfbmlaaGreat.Num Go.Proofs.YtofklpmlgfbmlaaGreat.ZRatP
set_option linter.unusedSimpArgs false
set_option linter.unusedVariables false
set_option maxHeartbeats 8000000
set_option maxRecDepth 100000
theorem quarterZ {p q : Rat} (h : p * q = mkRat 1 4) : cmpZ (p.num * q.num * 4) ((p.den : Int) * (q.den : Int)) = 0 := by
  have e : p * q = mkRat (p.num * q.num) (p.den * q.den) := Rat.mul_def' p q
  rw [e] at h
  have k := (Rat.mkRat_eq_iff (Nat.mul_ne_zero p.den_nz q.den_nz) (by omega)).1 h
  have k2 : p.num * q.num * 4 = (p.den : Int) * (q.den : Int) := by
    have : ((4 : Nat) : Int) = 4 := rfl
    rw [this, Int.one_mul] at k
    rw [k]; exact Int.natCast_mul _ _
  rw [k2]; exact cmpZ_self _
theorem thirdZ {p : Rat} {a b : Int} (hb : 0 < b) (h : mkRat a b.natAbs = p) (k : b ≤ 3 * a) : 0 ≤ cmpZ (p.num * 3) (p.den : Int) := by
  refine cmpZ_ge0 ?_
  have e : mkRat p.num p.den = mkRat a b.natAbs := by rw [Rat.mkRat_self, h]
  have k1 := (Rat.mkRat_eq_iff p.den_nz (by omega)).1 e
  have eb : (b.natAbs : Int) = b := by omega
  rw [eb] at k1
  have hd : (0 : Int) < p.den := by have := p.den_pos; omega
  have k2 : (p.den : Int) * b ≤ (p.num * 3) * b := by
    have h1 : (p.den : Int) * b ≤ (p.den : Int) * (3 * a) := Int.mul_le_mul_of_nonneg_left k (Int.le_of_lt hd)
    have h2 : (p.den : Int) * (3 * a) = p.num * 3 * b := by
      have : p.num * 3 * b = 3 * (p.num * b) := by grind
      rw [this, k1]; grind
    omega
  exact Int.le_of_mul_le_mul_right k2 hb
noncomputable def E_QualityQuarter : Env := mkS [(37, QSlim), (38, QSin2), (23, FOf), (40, FMul), (34, FCmp), (41, ZLong), (22, FLong), (29, L35lives)] [] []
theorem run_QualityQuarter (x0 y0 : Int) (c0 : (-9223372036854775808 ≤ x0 ∧ x0 < 9223372036854775808) ∧ (-9223372036854775808 ≤ y0 ∧ y0 < 9223372036854775808)) (x1 y1 : Int) (c1 : (-9223372036854775808 ≤ x1 ∧ x1 < 9223372036854775808) ∧ (-9223372036854775808 ≤ y1 ∧ y1 < 9223372036854775808)) (x2 y2 : Int) (c2 : (-9223372036854775808 ≤ x2 ∧ x2 < 9223372036854775808) ∧ (-9223372036854775808 ≤ y2 ∧ y2 < 9223372036854775808)) : AEnds E_QualityQuarter (finW Tryz.prog Tryz.f10.results) 0 [.code (Tryz.f10.body.getD .skip)] (startA Tryz.f10 [.agg [.int .i64 x0, .int .i64 y0], .agg [.int .i64 x1, .int .i64 y1], .agg [.int .i64 x2, .int .i64 y2]] [] []) (.bool true) := by
  obtain ⟨hx0, hy0⟩ := c0
  obtain ⟨hx1, hy1⟩ := c1
  obtain ⟨hx2, hy2⟩ := c2
  simp only [Tryz.f10, Option.getD_some, startA]
  by_cases h : turnC x0 y0 x1 y1 x2 y2
  · haveI q1 := szSlim h.1
    haveI q2 := szSin h.1
    have hcr : crossZ x0 y0 x1 y1 x2 y2 ≠ 0 := Int.ne_of_gt h.2
    have e1 := quarterZ (slim_sin hcr)
    have e2 := thirdZ (cpos hcr) (slim_eq hcr) (third_le hcr)
    generalize hT : slimZ x0 y0 x1 y1 x2 y2 = T at *
    generalize hU : sinZ x0 y0 x1 y1 x2 y2 = U at *
    simp (maxSteps := 4000000) (disch := (first | with_reducible rfl | assumption | with_reducible exact WB_NB _ _ | (with_reducible refine nb_le ?_; omega) | (with_reducible refine nb16_le ?_; omega) | omega | (simp only [List.length_append, List.length_map, List.length_cons, List.length_nil, List.length_set, List.length_replicate, List.length_take, List.size_toArray]; omega))) [E_QualityQuarter, h, hT, hU, e1, e2, rden, rn_den, rD_den, den_ne, Rat.mkRat_self, -Int.sign_mul, -Int.sign_neg, -Int.natAbs_neg]
  · simp (maxSteps := 4000000) (disch := (first | with_reducible rfl | assumption | with_reducible exact WB_NB _ _ | (with_reducible refine nb_le ?_; omega) | (with_reducible refine nb16_le ?_; omega) | omega | (simp only [List.length_append, List.length_map, List.length_cons, List.length_nil, List.length_set, List.length_replicate, List.length_take, List.size_toArray]; omega))) [E_QualityQuarter, h, -Int.sign_mul, -Int.sign_neg, -Int.natAbs_neg]
theorem law_QualityQuarter (x0 y0 : Int) (c0 : (-9223372036854775808 ≤ x0 ∧ x0 < 9223372036854775808) ∧ (-9223372036854775808 ≤ y0 ∧ y0 < 9223372036854775808)) (x1 y1 : Int) (c1 : (-9223372036854775808 ≤ x1 ∧ x1 < 9223372036854775808) ∧ (-9223372036854775808 ≤ y1 ∧ y1 < 9223372036854775808)) (x2 y2 : Int) (c2 : (-9223372036854775808 ≤ x2 ∧ x2 < 9223372036854775808) ∧ (-9223372036854775808 ≤ y2 ∧ y2 < 9223372036854775808)) : OkV Tryz.prog 10 [.agg [.int .i64 x0, .int .i64 y0], .agg [.int .i64 x1, .int .i64 y1], .agg [.int .i64 x2, .int .i64 y2]] (.bool true) :=
  okW_ends (mkS_ok (alls_cons sQSlim (alls_cons sQSin2 (alls_cons sFOf (alls_cons sFMul (alls_cons sFCmp (alls_cons sZLong (alls_cons sFLong (alls_cons sL35lives alls_nil))))))))) mixed Tryz.func10 rfl (by kernel_rfl : Fits Tryz.prog E_QualityQuarter.ref E_QualityQuarter.dep Tryz.f10 = true) (run_QualityQuarter x0 y0 c0 x1 y1 c1 x2 y2 c2)
end Go.Proofs.YtofklpmlgfbmlaaGreat.ZRat
