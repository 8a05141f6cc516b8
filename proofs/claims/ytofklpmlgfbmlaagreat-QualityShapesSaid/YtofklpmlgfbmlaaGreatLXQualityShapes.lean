/- The sides, the area and the widest angle of any triangle, or that it is none. For every input; no condition. -/
import Derived.Test.YtofklpmlgfbmlaaGreatC16
import Derived.Test.YtofklpmlgfbmlaaGreatC17
import Derived.Test.YtofklpmlgfbmlaaGreatC19
import Derived.Test.YtofklpmlgfbmlaaGreatC22
import Derived.Test.YtofklpmlgfbmlaaGreatC28
import Derived.Test.YtofklpmlgfbmlaaGreatC8
import Derived.Test.YtofklpmlgfbmlaaGreatC9
set_option linter.unusedVariables false
set_option linter.unusedSimpArgs false
namespace Go.Proofs.YtofklpmlgfbmlaaGreat.ZRat
open Go.RowKit Go.Proofs.YtofklpmlgfbmlaaGreat.Wd
open Go Go.Proofs.YtofklpmlgfbmlaaGreat.Ab Go.Proofs Go.Proofs.YtofklpmlgfbmlaaGreat.Num Go.Proofs.YtofklpmlgfbmlaaGreat.ZRatP
set_option maxHeartbeats 8000000
set_option maxRecDepth 100000
theorem sinCmp {n s t : Int} (hs : 0 < s * t) : cmpZ (n * n * (((n * n : Int) : Rat) / ((s * t : Int) : Rat)).den) ((((n * n : Int) : Rat) / ((s * t : Int) : Rat)).num * (s * t)) = 0 := by
  have e : ((n * n : Int) : Rat) / ((s * t : Int) : Rat) = mkRat (n * n) (s * t).natAbs := by
    rw [Rat.mkRat_eq_div, natAbsQ' hs]
  rw [e]
  generalize hq : mkRat (n * n) (s * t).natAbs = q
  have e1 : mkRat q.num q.den = mkRat (n * n) (s * t).natAbs := by rw [Rat.mkRat_self, hq]
  have k1 := (Rat.mkRat_eq_iff q.den_nz (by omega)).1 e1
  have eb : ((s * t).natAbs : Int) = s * t := by omega
  rw [eb] at k1
  rw [k1]
  exact cmpZ_self _
noncomputable def E_QualityShapes : Env := mkS [(27, QOf35), (28, RTurns), (30, RSides), (32, LWide), (31, ZCmp), (33, RAngle), (35, ZMul), (36, RSin2), (34, FCmp), (29, L35lives)] [(6, [3, 4, 5, 7, 8, 9, 10])] []
theorem run_QualityShapes (x0 y0 : Int) (c0 : (-9223372036854775808 ≤ x0 ∧ x0 < 9223372036854775808) ∧ (-9223372036854775808 ≤ y0 ∧ y0 < 9223372036854775808)) (x1 y1 : Int) (c1 : (-9223372036854775808 ≤ x1 ∧ x1 < 9223372036854775808) ∧ (-9223372036854775808 ≤ y1 ∧ y1 < 9223372036854775808)) (x2 y2 : Int) (c2 : (-9223372036854775808 ≤ x2 ∧ x2 < 9223372036854775808) ∧ (-9223372036854775808 ≤ y2 ∧ y2 < 9223372036854775808)) : AEnds E_QualityShapes (finW Tryz.prog Tryz.f7.results) 0 [.code (Tryz.f7.body.getD .skip)] (startA Tryz.f7 [.agg [.int .i64 x0, .int .i64 y0], .agg [.int .i64 x1, .int .i64 y1], .agg [.int .i64 x2, .int .i64 y2]] [] []) (.bool true) := by
  obtain ⟨hx0, hy0⟩ := c0
  obtain ⟨hx1, hy1⟩ := c1
  obtain ⟨hx2, hy2⟩ := c2
  by_cases h : turnC x0 y0 x1 y1 x2 y2
  · haveI q2 := szSin h.1
    obtain ⟨p0, p1, p2⟩ := sides_pos (Int.ne_of_gt h.2)
    obtain ⟨s0b, s1b, s2b⟩ := sides_b h.1
    have cb := cross_b h.1
    have hcr := h.2
    have e1 := sinCmp (n := crossZ x0 y0 x1 y1 x2 y2) (s := (sidesZ x0 y0 x1 y1 x2 y2).2.1) (t := (sidesZ x0 y0 x1 y1 x2 y2).2.2) (Int.mul_pos p1 p2)
    have eU : ((crossZ x0 y0 x1 y1 x2 y2 * crossZ x0 y0 x1 y1 x2 y2 : Int) : Rat) / (((sidesZ x0 y0 x1 y1 x2 y2).2.1 * (sidesZ x0 y0 x1 y1 x2 y2).2.2 : Int) : Rat) = sinZ x0 y0 x1 y1 x2 y2 := rfl
    rw [eU] at e1
    clear eU
    have ea : angZ (sidesZ x0 y0 x1 y1 x2 y2) = cmpZ (sidesZ x0 y0 x1 y1 x2 y2).2.2 ((sidesZ x0 y0 x1 y1 x2 y2).1 + (sidesZ x0 y0 x1 y1 x2 y2).2.1) := (cmpZ_sub _ _).symm
    generalize hU : sinZ x0 y0 x1 y1 x2 y2 = U at *
    generalize hA : angZ (sidesZ x0 y0 x1 y1 x2 y2) = A at *
    generalize hn : crossZ x0 y0 x1 y1 x2 y2 = n at *
    generalize h0 : (sidesZ x0 y0 x1 y1 x2 y2).1 = s0 at *
    generalize h1 : (sidesZ x0 y0 x1 y1 x2 y2).2.1 = s1 at *
    generalize h2 : (sidesZ x0 y0 x1 y1 x2 y2).2.2 = s2 at *
    have w0 := wideD_A s0 (by omega)
    have w1 := wideD_A s1 (by omega)
    have w2 := wideD_A s2 (by omega)
    have w3 := wideD_A n (by omega)
    haveI : SzI s0 3 := ⟨by omega⟩
    haveI : SzI s1 3 := ⟨by omega⟩
    haveI : SzI s2 3 := ⟨by omega⟩
    haveI : SzI n 3 := ⟨by omega⟩
    have hp0 : 0 ≤ s0 := by omega
    have hp1 : 0 ≤ s1 := by omega
    have hp2 : 0 ≤ s2 := by omega
    have hp3 : 0 ≤ n := by omega
    have hsg : 0 < n.sign ∧ 0 < n := ⟨by rw [Int.sign_eq_one_of_pos hcr]; omega, hcr⟩
    have F := Aside0.mk (And.intro w0 (And.intro w1 (And.intro w2 (And.intro w3 (And.intro hp0 (And.intro hp1 (And.intro hp2 (And.intro hp3 hsg))))))))
    clear w0 w1 w2 w3 hp0 hp1 hp2 hp3 s0b s1b s2b cb p0 p1 p2 hcr
    simp only [Tryz.f7, Option.getD_some, startA]
    simp (maxSteps := 4000000) (disch := (first | with_reducible rfl | assumption | with_reducible exact WB_NB _ _ | (with_reducible refine nb_le ?_; omega) | (with_reducible refine nb16_le ?_; omega) | omega | (simp only [List.length_append, List.length_map, List.length_cons, List.length_nil, List.length_set, List.length_replicate, List.length_take, List.size_toArray]; omega))) [E_QualityShapes, F.out, h, h.1, hU, hA, hn, h0, h1, h2, e1, ea, nilOp, hx0, hy0, hx1, hy1, hx2, hy2, cmpZ_self, rden, den_ne, -Int.sign_mul, -Int.sign_neg, -Int.natAbs_neg]
    refine .loop ?_
    simp only [E_QualityShapes, firstR, mkS_keep, keepT, List.find?, Nat.reduceBEq, Option.map_some, Option.getD_some]
    simp (maxSteps := 4000000) (disch := (first | with_reducible rfl | assumption | with_reducible exact WB_NB _ _ | (with_reducible refine nb_le ?_; omega) | (with_reducible refine nb16_le ?_; omega) | omega | (simp only [List.length_append, List.length_map, List.length_cons, List.length_nil, List.length_set, List.length_replicate, List.length_take, List.size_toArray]; omega))) [E_QualityShapes, F.out, h, h.1, hU, hA, hn, h0, h1, h2, e1, ea, nilOp, hx0, hy0, hx1, hy1, hx2, hy2, cmpZ_self, rden, den_ne, -Int.sign_mul, -Int.sign_neg, -Int.natAbs_neg]
    refine .again ?_
    simp only [E_QualityShapes, firstR, mkS_keep, keepT, List.find?, Nat.reduceBEq, Option.map_some, Option.getD_some]
    simp (maxSteps := 4000000) (disch := (first | with_reducible rfl | assumption | with_reducible exact WB_NB _ _ | (with_reducible refine nb_le ?_; omega) | (with_reducible refine nb16_le ?_; omega) | omega | (simp only [List.length_append, List.length_map, List.length_cons, List.length_nil, List.length_set, List.length_replicate, List.length_take, List.size_toArray]; omega))) [E_QualityShapes, F.out, h, h.1, hU, hA, hn, h0, h1, h2, e1, ea, nilOp, hx0, hy0, hx1, hy1, hx2, hy2, cmpZ_self, rden, den_ne, -Int.sign_mul, -Int.sign_neg, -Int.natAbs_neg]
    refine .again ?_
    simp only [E_QualityShapes, firstR, mkS_keep, keepT, List.find?, Nat.reduceBEq, Option.map_some, Option.getD_some]
    simp (maxSteps := 4000000) (disch := (first | with_reducible rfl | assumption | with_reducible exact WB_NB _ _ | (with_reducible refine nb_le ?_; omega) | (with_reducible refine nb16_le ?_; omega) | omega | (simp only [List.length_append, List.length_map, List.length_cons, List.length_nil, List.length_set, List.length_replicate, List.length_take, List.size_toArray]; omega))) [E_QualityShapes, F.out, h, h.1, hU, hA, hn, h0, h1, h2, e1, ea, nilOp, hx0, hy0, hx1, hy1, hx2, hy2, cmpZ_self, rden, den_ne, -Int.sign_mul, -Int.sign_neg, -Int.natAbs_neg]
    refine .again ?_
    simp only [E_QualityShapes, firstR, mkS_keep, keepT, List.find?, Nat.reduceBEq, Option.map_some, Option.getD_some]
    simp (maxSteps := 4000000) (disch := (first | with_reducible rfl | assumption | with_reducible exact WB_NB _ _ | (with_reducible refine nb_le ?_; omega) | (with_reducible refine nb16_le ?_; omega) | omega | (simp only [List.length_append, List.length_map, List.length_cons, List.length_nil, List.length_set, List.length_replicate, List.length_take, List.size_toArray]; omega))) [E_QualityShapes, F.out, h, h.1, hU, hA, hn, h0, h1, h2, e1, ea, nilOp, hx0, hy0, hx1, hy1, hx2, hy2, cmpZ_self, rden, den_ne, -Int.sign_mul, -Int.sign_neg, -Int.natAbs_neg]
  · simp only [Tryz.f7, Option.getD_some, startA]
    simp (maxSteps := 4000000) (disch := (first | with_reducible rfl | assumption | with_reducible exact WB_NB _ _ | (with_reducible refine nb_le ?_; omega) | (with_reducible refine nb16_le ?_; omega) | omega | (simp only [List.length_append, List.length_map, List.length_cons, List.length_nil, List.length_set, List.length_replicate, List.length_take, List.size_toArray]; omega))) [E_QualityShapes, h, hx0, hy0, hx1, hy1, hx2, hy2, nilOp, -Int.sign_mul, -Int.sign_neg, -Int.natAbs_neg]
theorem law_QualityShapes (x0 y0 : Int) (c0 : (-9223372036854775808 ≤ x0 ∧ x0 < 9223372036854775808) ∧ (-9223372036854775808 ≤ y0 ∧ y0 < 9223372036854775808)) (x1 y1 : Int) (c1 : (-9223372036854775808 ≤ x1 ∧ x1 < 9223372036854775808) ∧ (-9223372036854775808 ≤ y1 ∧ y1 < 9223372036854775808)) (x2 y2 : Int) (c2 : (-9223372036854775808 ≤ x2 ∧ x2 < 9223372036854775808) ∧ (-9223372036854775808 ≤ y2 ∧ y2 < 9223372036854775808)) : OkV Tryz.prog 7 [.agg [.int .i64 x0, .int .i64 y0], .agg [.int .i64 x1, .int .i64 y1], .agg [.int .i64 x2, .int .i64 y2]] (.bool true) :=
  okW_ends (mkS_ok (alls_cons sQOf35 (alls_cons sRTurns (alls_cons sRSides (alls_cons sLWide (alls_cons sZCmp (alls_cons sRAngle (alls_cons sZMul (alls_cons sRSin2 (alls_cons sFCmp (alls_cons sL35lives alls_nil))))))))))) mixed Tryz.func7 rfl (by kernel_rfl : Fits Tryz.prog E_QualityShapes.ref E_QualityShapes.dep Tryz.f7 = true) (run_QualityShapes x0 y0 c0 x1 y1 c1 x2 y2 c2)
end Go.Proofs.YtofklpmlgfbmlaaGreat.ZRat
