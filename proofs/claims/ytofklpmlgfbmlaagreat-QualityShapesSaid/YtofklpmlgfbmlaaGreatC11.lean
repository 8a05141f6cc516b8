/- Walks by the abstract run: circles. -/
import Derived.Test.YtofklpmlgfbmlaaGreatC10
import Derived.Test.YtofklpmlgfbmlaaGreatC18
import Derived.Test.YtofklpmlgfbmlaaGreatC20
import Derived.Test.YtofklpmlgfbmlaaGreatC21
import Derived.Test.YtofklpmlgfbmlaaGreatC23
import Derived.Test.YtofklpmlgfbmlaaGreatC8
import Derived.Test.YtofklpmlgfbmlaaGreatC9
set_option linter.unusedVariables false
set_option linter.unusedSimpArgs false
namespace Go.Proofs.YtofklpmlgfbmlaaGreat.ZRat
open Go.RowKit Go.Proofs.YtofklpmlgfbmlaaGreat.Wd
open Go Go.Proofs.YtofklpmlgfbmlaaGreat.Ab Go.Proofs Go.Proofs.YtofklpmlgfbmlaaGreat.Num Go.Proofs.YtofklpmlgfbmlaaGreat.ZRatP
set_option linter.unusedSimpArgs false
set_option linter.unusedVariables false
set_option maxHeartbeats 8000000
set_option maxRecDepth 100000
/-- Whether three points have a circle. -/
def hasC (ax ay bx bY cx cy : Int) : Prop := (canP ax ay ∧ canP bx bY ∧ canP cx cy) ∧ crossZ ax ay bx bY cx cy ≠ 0
instance (ax ay bx bY cx cy : Int) : Decidable (hasC ax ay bx bY cx cy) := by unfold hasC; infer_instance
noncomputable def QqOf : List AV → Option AV
  | [x0] => (wideD x0).bind fun a0 => some (quadA a0)
  | _ => none
noncomputable def E_QqOf : Env := mkS [] [] []
theorem run_QqOf (a0 : Int) (b0 : -170141183460469231731687303715884105728 ≤ a0 ∧ a0 < 170141183460469231731687303715884105728) : AEnds E_QqOf (finW Tryz.prog Tryz.f149.results) 0 [.code (Tryz.f149.body.getD .skip)] (startA Tryz.f149 [wideA a0] [] []) (quadA a0) := by
  simp only [Tryz.f149, Option.getD_some, startA]
  have hu : ∀ x : Int, IntKind.u64.wrap x = x % 18446744073709551616 := fun x => IntKind.wrap_u64 x
  simp only [wideA, quadA]
  by_cases h0 : a0 < 0
  · have e1 : shr IntKind.i64 (a0 / 18446744073709551616) 63 = -1 := by unfold shr; simp [fdivP]; omega
    have e2 : a0 / 340282366920938463463374607431768211456 % 18446744073709551616 = 18446744073709551615 := by omega
    have e3 : a0 / 6277101735386680763835789423207666416102355444464034512896 % 18446744073709551616 = 18446744073709551615 := by omega
    simp (maxSteps := 4000000) (disch := (first | with_reducible rfl | assumption | with_reducible exact WB_NB _ _ | (with_reducible refine nb_le ?_; omega) | (with_reducible refine nb16_le ?_; omega) | omega | (simp only [List.length_append, List.length_map, List.length_cons, List.length_nil, List.length_set, List.length_replicate, List.length_take, List.size_toArray]; omega))) [E_QqOf, hu, e1, e2, e3]
  · have e1 : shr IntKind.i64 (a0 / 18446744073709551616) 63 = 0 := by unfold shr; simp [fdivP]; omega
    have e2 : a0 / 340282366920938463463374607431768211456 % 18446744073709551616 = 0 := by omega
    have e3 : a0 / 6277101735386680763835789423207666416102355444464034512896 % 18446744073709551616 = 0 := by omega
    simp (maxSteps := 4000000) (disch := (first | with_reducible rfl | assumption | with_reducible exact WB_NB _ _ | (with_reducible refine nb_le ?_; omega) | (with_reducible refine nb16_le ?_; omega) | omega | (simp only [List.length_append, List.length_map, List.length_cons, List.length_nil, List.length_set, List.length_replicate, List.length_take, List.size_toArray]; omega))) [E_QqOf, hu, e1, e2, e3]
theorem sQqOf : GoodS (149, QqOf) := by
  intro xs r h
  simp only at h
  unfold QqOf at h
  split at h
  · obtain ⟨a0, h0, h⟩ := Option.bind_eq_some_iff.1 h
    cases h
    obtain ⟨rfl, b0⟩ := wideD_out h0
    exact .inl <| okW_ends (mkS_ok alls_nil) mixed Tryz.func149 rfl (by kernel_rfl : Fits Tryz.prog E_QqOf.ref E_QqOf.dep Tryz.f149 = true) (run_QqOf _ b0)
  · cases h
attribute [simp] QqOf
noncomputable def QOf : List AV → Option AV
  | [x0] => (wideD x0).bind fun a0 => some (quadA a0)
  | _ => none
noncomputable def E_QOf : Env := mkS [(149, QqOf)] [] []
theorem run_QOf (a0 : Int) (b0 : -170141183460469231731687303715884105728 ≤ a0 ∧ a0 < 170141183460469231731687303715884105728) : AEnds E_QOf (finW Tryz.prog Tryz.f96.results) 0 [.code (Tryz.f96.body.getD .skip)] (startA Tryz.f96 [wideA a0] [] []) (quadA a0) := by
  simp only [Tryz.f96, Option.getD_some, startA]
  have w0 := wideD_A a0 b0
  simp only [wideA, quadA]
  simp (maxSteps := 4000000) (disch := (first | with_reducible rfl | assumption | with_reducible exact WB_NB _ _ | (with_reducible refine nb_le ?_; omega) | (with_reducible refine nb16_le ?_; omega) | omega | (simp only [List.length_append, List.length_map, List.length_cons, List.length_nil, List.length_set, List.length_replicate, List.length_take, List.size_toArray]; omega))) [E_QOf, w0, quadA]
theorem sQOf : GoodS (96, QOf) := by
  intro xs r h
  simp only at h
  unfold QOf at h
  split at h
  · obtain ⟨a0, h0, h⟩ := Option.bind_eq_some_iff.1 h
    cases h
    obtain ⟨rfl, b0⟩ := wideD_out h0
    exact .inl <| okW_ends (mkS_ok (alls_cons sQqOf alls_nil)) mixed Tryz.func96 rfl (by kernel_rfl : Fits Tryz.prog E_QOf.ref E_QOf.dep Tryz.f96 = true) (run_QOf _ b0)
  · cases h
attribute [simp] QOf
noncomputable def Clong : List AV → Option AV
  | [x0] => (wideD x0).bind fun a0 => some (intA a0)
  | _ => none
noncomputable def E_Clong : Env := mkS [(96, QOf), (83, QOfQuad)] [] []
theorem run_Clong (a0 : Int) (b0 : -170141183460469231731687303715884105728 ≤ a0 ∧ a0 < 170141183460469231731687303715884105728) : AEnds E_Clong (finW Tryz.prog Tryz.f51.results) 0 [.code (Tryz.f51.body.getD .skip)] (startA Tryz.f51 [wideA a0] [] []) (intA a0) := by
  simp only [Tryz.f51, Option.getD_some, startA]
  have w0 := wideD_A a0 b0
  have hz := quadD_U a0 (by omega)
  simp only [wideA]
  simp (maxSteps := 4000000) (disch := (first | with_reducible rfl | assumption | with_reducible exact WB_NB _ _ | (with_reducible refine nb_le ?_; omega) | (with_reducible refine nb16_le ?_; omega) | omega | (simp only [List.length_append, List.length_map, List.length_cons, List.length_nil, List.length_set, List.length_replicate, List.length_take, List.size_toArray]; omega))) [E_Clong, w0, hz, quadA]
theorem sClong : GoodS (51, Clong) := by
  intro xs r h
  simp only at h
  unfold Clong at h
  split at h
  · obtain ⟨a0, h0, h⟩ := Option.bind_eq_some_iff.1 h
    cases h
    obtain ⟨rfl, b0⟩ := wideD_out h0
    exact .inl <| okW_ends (mkS_ok (alls_cons sQOf (alls_cons sQOfQuad alls_nil))) mixed Tryz.func51 rfl (by kernel_rfl : Fits Tryz.prog E_Clong.ref E_Clong.dep Tryz.f51 = true) (run_Clong _ b0)
  · cases h
attribute [simp] Clong
noncomputable def Ccircle : List AV → Option AV
  | [x0, x1, x2] => (ptD x0).bind fun a0 => (ptD x1).bind fun a1 => (ptD x2).bind fun a2 => some (.bool (decide (hasC a0.1 a0.2 a1.1 a1.2 a2.1 a2.2)))
  | _ => none
noncomputable def E_Ccircle : Env := mkS [(90, POrient)] [] []
theorem run_Ccircle (x0 y0 : Int) (x1 y1 : Int) (x2 y2 : Int) : AEnds E_Ccircle (finW Tryz.prog Tryz.f46.results) 0 [.code (Tryz.f46.body.getD .skip)] (startA Tryz.f46 [.agg [.int .i64 x0, .int .i64 y0], .agg [.int .i64 x1, .int .i64 y1], .agg [.int .i64 x2, .int .i64 y2]] [] []) (.bool (decide (hasC x0 y0 x1 y1 x2 y2))) := by
  simp only [Tryz.f46, Option.getD_some, startA]
  unfold hasC
  by_cases hc : canP x0 y0 ∧ canP x1 y1 ∧ canP x2 y2
  · by_cases h0 : crossZ x0 y0 x1 y1 x2 y2 = 0
    · simp (maxSteps := 4000000) (disch := (first | with_reducible rfl | assumption | with_reducible exact WB_NB _ _ | (with_reducible refine nb_le ?_; omega) | (with_reducible refine nb16_le ?_; omega) | omega | (simp only [List.length_append, List.length_map, List.length_cons, List.length_nil, List.length_set, List.length_replicate, List.length_take, List.size_toArray]; omega))) [E_Ccircle, hc, h0]
    · simp (maxSteps := 4000000) (disch := (first | with_reducible rfl | assumption | with_reducible exact WB_NB _ _ | (with_reducible refine nb_le ?_; omega) | (with_reducible refine nb16_le ?_; omega) | omega | (simp only [List.length_append, List.length_map, List.length_cons, List.length_nil, List.length_set, List.length_replicate, List.length_take, List.size_toArray]; omega))) [E_Ccircle, hc, h0]
  · simp (maxSteps := 4000000) (disch := (first | with_reducible rfl | assumption | with_reducible exact WB_NB _ _ | (with_reducible refine nb_le ?_; omega) | (with_reducible refine nb16_le ?_; omega) | omega | (simp only [List.length_append, List.length_map, List.length_cons, List.length_nil, List.length_set, List.length_replicate, List.length_take, List.size_toArray]; omega))) [E_Ccircle, hc]
theorem sCcircle : GoodS (46, Ccircle) := by
  intro xs r h
  simp only at h
  unfold Ccircle at h
  split at h
  · obtain ⟨a0, h0, h⟩ := Option.bind_eq_some_iff.1 h
    obtain ⟨a1, h1, h⟩ := Option.bind_eq_some_iff.1 h
    obtain ⟨a2, h2, h⟩ := Option.bind_eq_some_iff.1 h
    cases h
    (obtain ⟨x0, y0⟩ := a0); (obtain rfl := ptD_out h0)
    (obtain ⟨x1, y1⟩ := a1); (obtain rfl := ptD_out h1)
    (obtain ⟨x2, y2⟩ := a2); (obtain rfl := ptD_out h2)
    exact .inl <| okW_ends (mkS_ok (alls_cons sPOrient alls_nil)) mixed Tryz.func46 rfl (by kernel_rfl : Fits Tryz.prog E_Ccircle.ref E_Ccircle.dep Tryz.f46 = true) (run_Ccircle _ _ _ _ _ _)
  · cases h
attribute [simp] Ccircle
end Go.Proofs.YtofklpmlgfbmlaaGreat.ZRat
namespace Go.Proofs.YtofklpmlgfbmlaaGreat.ZRat
open Go.RowKit Go.Proofs.YtofklpmlgfbmlaaGreat.Wd
open Go Go.Proofs.YtofklpmlgfbmlaaGreat.Ab Go.Proofs Go.Proofs.YtofklpmlgfbmlaaGreat.Num Go.Proofs.YtofklpmlgfbmlaaGreat.ZRatP
set_option linter.unusedSimpArgs false
set_option linter.unusedVariables false
set_option maxHeartbeats 8000000
set_option maxRecDepth 100000
theorem mkOne (n : Int) : mkRat n 1 = (n : Rat) := by rw [Rat.mkRat_eq_div]; simp; grind
end Go.Proofs.YtofklpmlgfbmlaaGreat.ZRat
namespace Go.Proofs.YtofklpmlgfbmlaaGreat.ZRat
open Go.RowKit Go.Proofs.YtofklpmlgfbmlaaGreat.Wd
open Go Go.Proofs.YtofklpmlgfbmlaaGreat.Ab Go.Proofs Go.Proofs.YtofklpmlgfbmlaaGreat.Num Go.Proofs.YtofklpmlgfbmlaaGreat.ZRatP
set_option linter.unusedSimpArgs false
set_option linter.unusedVariables false
set_option maxHeartbeats 8000000
set_option maxRecDepth 100000
noncomputable def Csides : List AV → Option AV
  | [x0, x1, x2] => (ptD x0).bind fun a0 => (ptD x1).bind fun a1 => (ptD x2).bind fun a2 => if canP a0.1 a0.2 ∧ canP a1.1 a1.2 ∧ canP a2.1 a2.2 then some (intA (distZ a0.1 a0.2 a1.1 a1.2 * distZ a1.1 a1.2 a2.1 a2.2 * distZ a2.1 a2.2 a0.1 a0.2)) else none
  | _ => none
noncomputable def E_Csides : Env := mkS [(59, PDist2), (51, Clong), (47, WMul)] [] []
theorem run_Csides (x0 y0 : Int) (x1 y1 : Int) (x2 y2 : Int) (hc : canP x0 y0 ∧ canP x1 y1 ∧ canP x2 y2) : AEnds E_Csides (finW Tryz.prog Tryz.f49.results) 0 [.code (Tryz.f49.body.getD .skip)] (startA Tryz.f49 [.agg [.int .i64 x0, .int .i64 y0], .agg [.int .i64 x1, .int .i64 y1], .agg [.int .i64 x2, .int .i64 y2]] [] []) (intA (distZ x0 y0 x1 y1 * distZ x1 y1 x2 y2 * distZ x2 y2 x0 y0)) := by
  simp only [Tryz.f49, Option.getD_some, startA]
  obtain ⟨k0, k1, k2⟩ := hc
  have i0 := k0
  have i1 := k1
  have i2 := k2
  unfold canP inP at i0 i1 i2
  have d01x : -2199023255552 ≤ x1 - x0 := by omega
  have d01x' : x1 - x0 ≤ 2199023255552 := by omega
  have d01y : -2199023255552 ≤ y1 - y0 := by omega
  have d01y' : y1 - y0 ≤ 2199023255552 := by omega
  have d12x : -2199023255552 ≤ x2 - x1 := by omega
  have d12x' : x2 - x1 ≤ 2199023255552 := by omega
  have d12y : -2199023255552 ≤ y2 - y1 := by omega
  have d12y' : y2 - y1 ≤ 2199023255552 := by omega
  have d20x : -2199023255552 ≤ x0 - x2 := by omega
  have d20x' : x0 - x2 ≤ 2199023255552 := by omega
  have d20y : -2199023255552 ≤ y0 - y2 := by omega
  have d20y' : y0 - y2 ≤ 2199023255552 := by omega
  have q01x := mulB (x := x1 - x0) (y := x1 - x0) (m := 2199023255552) (n := 2199023255552) ⟨d01x, d01x'⟩ ⟨d01x, d01x'⟩
  have q01y := mulB (x := y1 - y0) (y := y1 - y0) (m := 2199023255552) (n := 2199023255552) ⟨d01y, d01y'⟩ ⟨d01y, d01y'⟩
  have dz01 : -9671406556917033397649408 ≤ distZ x0 y0 x1 y1 ∧ distZ x0 y0 x1 y1 ≤ 9671406556917033397649408 := by unfold distZ; omega
  have w01 := wideD_A (distZ x0 y0 x1 y1) (by omega)
  haveI : SzI (distZ x0 y0 x1 y1) 3 := ⟨by omega⟩
  have q12x := mulB (x := x2 - x1) (y := x2 - x1) (m := 2199023255552) (n := 2199023255552) ⟨d12x, d12x'⟩ ⟨d12x, d12x'⟩
  have q12y := mulB (x := y2 - y1) (y := y2 - y1) (m := 2199023255552) (n := 2199023255552) ⟨d12y, d12y'⟩ ⟨d12y, d12y'⟩
  have dz12 : -9671406556917033397649408 ≤ distZ x1 y1 x2 y2 ∧ distZ x1 y1 x2 y2 ≤ 9671406556917033397649408 := by unfold distZ; omega
  have w12 := wideD_A (distZ x1 y1 x2 y2) (by omega)
  haveI : SzI (distZ x1 y1 x2 y2) 3 := ⟨by omega⟩
  have q20x := mulB (x := x0 - x2) (y := x0 - x2) (m := 2199023255552) (n := 2199023255552) ⟨d20x, d20x'⟩ ⟨d20x, d20x'⟩
  have q20y := mulB (x := y0 - y2) (y := y0 - y2) (m := 2199023255552) (n := 2199023255552) ⟨d20y, d20y'⟩ ⟨d20y, d20y'⟩
  have dz20 : -9671406556917033397649408 ≤ distZ x2 y2 x0 y0 ∧ distZ x2 y2 x0 y0 ≤ 9671406556917033397649408 := by unfold distZ; omega
  have w20 := wideD_A (distZ x2 y2 x0 y0) (by omega)
  haveI : SzI (distZ x2 y2 x0 y0) 3 := ⟨by omega⟩
  clear i0 i1 i2
  simp (maxSteps := 4000000) (disch := (first | with_reducible rfl | assumption | with_reducible exact WB_NB _ _ | (with_reducible refine nb_le ?_; omega) | (with_reducible refine nb16_le ?_; omega) | omega | (simp only [List.length_append, List.length_map, List.length_cons, List.length_nil, List.length_set, List.length_replicate, List.length_take, List.size_toArray]; omega))) [E_Csides, k0, k1, k2, w01, w12, w20, wideA]
theorem sCsides : GoodS (49, Csides) := by
  intro xs r h
  simp only at h
  unfold Csides at h
  split at h
  · obtain ⟨a0, h0, h⟩ := Option.bind_eq_some_iff.1 h
    obtain ⟨a1, h1, h⟩ := Option.bind_eq_some_iff.1 h
    obtain ⟨a2, h2, h⟩ := Option.bind_eq_some_iff.1 h
    split at h
    · rename_i hc
      cases h
      (obtain ⟨x0, y0⟩ := a0); (obtain rfl := ptD_out h0)
      (obtain ⟨x1, y1⟩ := a1); (obtain rfl := ptD_out h1)
      (obtain ⟨x2, y2⟩ := a2); (obtain rfl := ptD_out h2)
      exact .inl <| okW_ends (mkS_ok (alls_cons sPDist2 (alls_cons sClong (alls_cons sWMul alls_nil)))) mixed Tryz.func49 rfl (by kernel_rfl : Fits Tryz.prog E_Csides.ref E_Csides.dep Tryz.f49 = true) (run_Csides _ _ _ _ _ _ hc)
    · cases h
  · cases h
attribute [simp] Csides
noncomputable def Csquare : List AV → Option AV
  | [x0, x1, x2] => (ptD x0).bind fun a0 => (ptD x1).bind fun a1 => (ptD x2).bind fun a2 => if canP a0.1 a0.2 ∧ canP a1.1 a1.2 ∧ canP a2.1 a2.2 then some (intA (crossZ a0.1 a0.2 a1.1 a1.2 a2.1 a2.2 * crossZ a0.1 a0.2 a1.1 a1.2 a2.1 a2.2)) else none
  | _ => none
noncomputable def E_Csquare : Env := mkS [(57, PArea2), (84, QMul), (83, QOfQuad)] [] []
theorem run_Csquare (x0 y0 : Int) (x1 y1 : Int) (x2 y2 : Int) (hc : canP x0 y0 ∧ canP x1 y1 ∧ canP x2 y2) : AEnds E_Csquare (finW Tryz.prog Tryz.f53.results) 0 [.code (Tryz.f53.body.getD .skip)] (startA Tryz.f53 [.agg [.int .i64 x0, .int .i64 y0], .agg [.int .i64 x1, .int .i64 y1], .agg [.int .i64 x2, .int .i64 y2]] [] []) (intA (crossZ x0 y0 x1 y1 x2 y2 * crossZ x0 y0 x1 y1 x2 y2)) := by
  simp only [Tryz.f53, Option.getD_some, startA]
  obtain ⟨k0, k1, k2⟩ := hc
  have i0 := k0
  have i1 := k1
  have i2 := k2
  unfold canP inP at i0 i1 i2
  have d01x : -2199023255552 ≤ x1 - x0 := by omega
  have d01x' : x1 - x0 ≤ 2199023255552 := by omega
  have d01y : -2199023255552 ≤ y1 - y0 := by omega
  have d01y' : y1 - y0 ≤ 2199023255552 := by omega
  have d02x : -2199023255552 ≤ x2 - x0 := by omega
  have d02x' : x2 - x0 ≤ 2199023255552 := by omega
  have d02y : -2199023255552 ≤ y2 - y0 := by omega
  have d02y' : y2 - y0 ≤ 2199023255552 := by omega
  have qc1 := mulB (x := x1 - x0) (y := y2 - y0) (m := 2199023255552) (n := 2199023255552) ⟨d01x, d01x'⟩ ⟨d02y, d02y'⟩
  have qc2 := mulB (x := y1 - y0) (y := x2 - x0) (m := 2199023255552) (n := 2199023255552) ⟨d01y, d01y'⟩ ⟨d02x, d02x'⟩
  have cz : -9671406556917033397649408 ≤ crossZ x0 y0 x1 y1 x2 y2 ∧ crossZ x0 y0 x1 y1 x2 y2 ≤ 9671406556917033397649408 := by unfold crossZ; omega
  have wc := wideD_A (crossZ x0 y0 x1 y1 x2 y2) (by omega)
  haveI : SzI (crossZ x0 y0 x1 y1 x2 y2) 3 := ⟨by omega⟩
  generalize hzz : crossZ x0 y0 x1 y1 x2 y2 = z at *
  have p1 := mulB (x := z) (y := z) (m := 9671406556917033397649408) (n := 9671406556917033397649408) cz cz
  have hz := quadD_U (z * z) (by omega)
  have c1 : -1267650600228229401496703205376 ≤ z := by omega
  have c2 : z ≤ 1267650600228229401496703205376 := by omega
  clear i0 i1 i2 qc1 qc2 cz p1
  simp (maxSteps := 4000000) (disch := (first | with_reducible rfl | assumption | with_reducible exact WB_NB _ _ | (with_reducible refine nb_le ?_; omega) | (with_reducible refine nb16_le ?_; omega) | omega | (simp only [List.length_append, List.length_map, List.length_cons, List.length_nil, List.length_set, List.length_replicate, List.length_take, List.size_toArray]; omega))) [E_Csquare, hzz, k0, k1, k2, wc, wideA, hz, quadA, c1, c2]
theorem sCsquare : GoodS (53, Csquare) := by
  intro xs r h
  simp only at h
  unfold Csquare at h
  split at h
  · obtain ⟨a0, h0, h⟩ := Option.bind_eq_some_iff.1 h
    obtain ⟨a1, h1, h⟩ := Option.bind_eq_some_iff.1 h
    obtain ⟨a2, h2, h⟩ := Option.bind_eq_some_iff.1 h
    split at h
    · rename_i hc
      cases h
      (obtain ⟨x0, y0⟩ := a0); (obtain rfl := ptD_out h0)
      (obtain ⟨x1, y1⟩ := a1); (obtain rfl := ptD_out h1)
      (obtain ⟨x2, y2⟩ := a2); (obtain rfl := ptD_out h2)
      exact .inl <| okW_ends (mkS_ok (alls_cons sPArea2 (alls_cons sQMul (alls_cons sQOfQuad alls_nil)))) mixed Tryz.func53 rfl (by kernel_rfl : Fits Tryz.prog E_Csquare.ref E_Csquare.dep Tryz.f53 = true) (run_Csquare _ _ _ _ _ _ hc)
    · cases h
  · cases h
attribute [simp] Csquare
end Go.Proofs.YtofklpmlgfbmlaaGreat.ZRat
namespace Go.Proofs.YtofklpmlgfbmlaaGreat.ZRat
open Go.RowKit Go.Proofs.YtofklpmlgfbmlaaGreat.Wd
open Go Go.Proofs.YtofklpmlgfbmlaaGreat.Ab Go.Proofs Go.Proofs.YtofklpmlgfbmlaaGreat.Num Go.Proofs.YtofklpmlgfbmlaaGreat.ZRatP
set_option linter.unusedSimpArgs false
set_option linter.unusedVariables false
set_option maxHeartbeats 8000000
set_option maxRecDepth 100000
def radZ (ax ay bx bY cx cy : Int) : Rat := ((distZ ax ay bx bY * distZ bx bY cx cy * distZ cx cy ax ay : Int) : Rat) / ((4 * (crossZ ax ay bx bY cx cy * crossZ ax ay bx bY cx cy) : Int) : Rat)
noncomputable def CRadius2 : List AV → Option AV
  | [x0, x1, x2] => (ptD x0).bind fun a0 => (ptD x1).bind fun a1 => (ptD x2).bind fun a2 => some (if hasC a0.1 a0.2 a1.1 a1.2 a2.1 a2.2 then .tup [ratA (radZ a0.1 a0.2 a1.1 a1.2 a2.1 a2.2), .bool true] else .tup [ratA 0, .bool false])
  | _ => none
noncomputable def E_CRadius2 : Env := mkS [(46, Ccircle), (56, ROf), (49, Csides), (48, WOf), (53, Csquare), (47, WMul), (65, RMake)] [] [(3, [([], [], false), ([], [], false), ([], [], false), ([], [], false), ([], [], false), ([], [], false), ([], [], false), ([], [], false), ([], [], false), ([], [], false), ([], [], false), ([], [], false), ([], [], false), ([], [], false), ([], [], false), ([0], [], false), ([], [], false)])]
theorem run_CRadius2 (x0 y0 : Int) (x1 y1 : Int) (x2 y2 : Int) : AEnds E_CRadius2 (finW Tryz.prog Tryz.f20.results) 0 [.code (Tryz.f20.body.getD .skip)] (startA Tryz.f20 [.agg [.int .i64 x0, .int .i64 y0], .agg [.int .i64 x1, .int .i64 y1], .agg [.int .i64 x2, .int .i64 y2]] [] []) (if hasC x0 y0 x1 y1 x2 y2 then .tup [ratA (radZ x0 y0 x1 y1 x2 y2), .bool true] else .tup [ratA 0, .bool false]) := by
  simp only [Tryz.f20, Option.getD_some, startA]
  by_cases h : hasC x0 y0 x1 y1 x2 y2
  · rw [if_pos h]
    unfold radZ
    have k0 := h.1.1
    have k1 := h.1.2.1
    have k2 := h.1.2.2
    have hcr := h.2
    have i0 := k0
    have i1 := k1
    have i2 := k2
    unfold canP inP at i0 i1 i2
    have d01x : -2199023255552 ≤ x1 - x0 := by omega
    have d01x' : x1 - x0 ≤ 2199023255552 := by omega
    have d01y : -2199023255552 ≤ y1 - y0 := by omega
    have d01y' : y1 - y0 ≤ 2199023255552 := by omega
    have d02x : -2199023255552 ≤ x2 - x0 := by omega
    have d02x' : x2 - x0 ≤ 2199023255552 := by omega
    have d02y : -2199023255552 ≤ y2 - y0 := by omega
    have d02y' : y2 - y0 ≤ 2199023255552 := by omega
    have d12x : -2199023255552 ≤ x2 - x1 := by omega
    have d12x' : x2 - x1 ≤ 2199023255552 := by omega
    have d12y : -2199023255552 ≤ y2 - y1 := by omega
    have d12y' : y2 - y1 ≤ 2199023255552 := by omega
    have d20x : -2199023255552 ≤ x0 - x2 := by omega
    have d20x' : x0 - x2 ≤ 2199023255552 := by omega
    have d20y : -2199023255552 ≤ y0 - y2 := by omega
    have d20y' : y0 - y2 ≤ 2199023255552 := by omega
    have q01x := mulB (x := x1 - x0) (y := x1 - x0) (m := 2199023255552) (n := 2199023255552) ⟨d01x, d01x'⟩ ⟨d01x, d01x'⟩
    have q01y := mulB (x := y1 - y0) (y := y1 - y0) (m := 2199023255552) (n := 2199023255552) ⟨d01y, d01y'⟩ ⟨d01y, d01y'⟩
    have dz01 : -9671406556917033397649408 ≤ distZ x0 y0 x1 y1 ∧ distZ x0 y0 x1 y1 ≤ 9671406556917033397649408 := by unfold distZ; omega
    have w01 := wideD_A (distZ x0 y0 x1 y1) (by omega)
    haveI : SzI (distZ x0 y0 x1 y1) 3 := ⟨by omega⟩
    have q12x := mulB (x := x2 - x1) (y := x2 - x1) (m := 2199023255552) (n := 2199023255552) ⟨d12x, d12x'⟩ ⟨d12x, d12x'⟩
    have q12y := mulB (x := y2 - y1) (y := y2 - y1) (m := 2199023255552) (n := 2199023255552) ⟨d12y, d12y'⟩ ⟨d12y, d12y'⟩
    have dz12 : -9671406556917033397649408 ≤ distZ x1 y1 x2 y2 ∧ distZ x1 y1 x2 y2 ≤ 9671406556917033397649408 := by unfold distZ; omega
    have w12 := wideD_A (distZ x1 y1 x2 y2) (by omega)
    haveI : SzI (distZ x1 y1 x2 y2) 3 := ⟨by omega⟩
    have q20x := mulB (x := x0 - x2) (y := x0 - x2) (m := 2199023255552) (n := 2199023255552) ⟨d20x, d20x'⟩ ⟨d20x, d20x'⟩
    have q20y := mulB (x := y0 - y2) (y := y0 - y2) (m := 2199023255552) (n := 2199023255552) ⟨d20y, d20y'⟩ ⟨d20y, d20y'⟩
    have dz20 : -9671406556917033397649408 ≤ distZ x2 y2 x0 y0 ∧ distZ x2 y2 x0 y0 ≤ 9671406556917033397649408 := by unfold distZ; omega
    have w20 := wideD_A (distZ x2 y2 x0 y0) (by omega)
    haveI : SzI (distZ x2 y2 x0 y0) 3 := ⟨by omega⟩
    have qc1 := mulB (x := x1 - x0) (y := y2 - y0) (m := 2199023255552) (n := 2199023255552) ⟨d01x, d01x'⟩ ⟨d02y, d02y'⟩
    have qc2 := mulB (x := y1 - y0) (y := x2 - x0) (m := 2199023255552) (n := 2199023255552) ⟨d01y, d01y'⟩ ⟨d02x, d02x'⟩
    have cz : -9671406556917033397649408 ≤ crossZ x0 y0 x1 y1 x2 y2 ∧ crossZ x0 y0 x1 y1 x2 y2 ≤ 9671406556917033397649408 := by unfold crossZ; omega
    have wc := wideD_A (crossZ x0 y0 x1 y1 x2 y2) (by omega)
    haveI : SzI (crossZ x0 y0 x1 y1 x2 y2) 3 := ⟨by omega⟩
    have hne : ¬ crossZ x0 y0 x1 y1 x2 y2 = 0 := hcr
    clear i0 i1 i2 q01x q01y q12x q12y q20x q20y qc1 qc2 dz01 dz12 dz20 cz
    simp (maxSteps := 4000000) (disch := (first | with_reducible rfl | assumption | with_reducible exact WB_NB _ _ | (with_reducible refine nb_le ?_; omega) | (with_reducible refine nb16_le ?_; omega) | omega | (simp only [List.length_append, List.length_map, List.length_cons, List.length_nil, List.length_set, List.length_replicate, List.length_take, List.size_toArray]; omega))) [E_CRadius2, h, k0, k1, k2, hne, Int.mul_eq_zero]
  · rw [if_neg h]
    simp (maxSteps := 4000000) (disch := (first | with_reducible rfl | assumption | with_reducible exact WB_NB _ _ | (with_reducible refine nb_le ?_; omega) | (with_reducible refine nb16_le ?_; omega) | omega | (simp only [List.length_append, List.length_map, List.length_cons, List.length_nil, List.length_set, List.length_replicate, List.length_take, List.size_toArray]; omega))) [E_CRadius2, h, ratA_zero]
theorem sCRadius2 : GoodS (20, CRadius2) := by
  intro xs r h
  simp only at h
  unfold CRadius2 at h
  split at h
  · obtain ⟨a0, h0, h⟩ := Option.bind_eq_some_iff.1 h
    obtain ⟨a1, h1, h⟩ := Option.bind_eq_some_iff.1 h
    obtain ⟨a2, h2, h⟩ := Option.bind_eq_some_iff.1 h
    cases h
    (obtain ⟨x0, y0⟩ := a0); (obtain rfl := ptD_out h0)
    (obtain ⟨x1, y1⟩ := a1); (obtain rfl := ptD_out h1)
    (obtain ⟨x2, y2⟩ := a2); (obtain rfl := ptD_out h2)
    exact .inl <| okW_ends (mkS_ok (alls_cons sCcircle (alls_cons sROf (alls_cons sCsides (alls_cons sWOf (alls_cons sCsquare (alls_cons sWMul (alls_cons sRMake alls_nil)))))))) mixed Tryz.func20 rfl (by kernel_rfl : Fits Tryz.prog E_CRadius2.ref E_CRadius2.dep Tryz.f20 = true) (run_CRadius2 _ _ _ _ _ _)
  · cases h
attribute [simp] CRadius2
end Go.Proofs.YtofklpmlgfbmlaaGreat.ZRat
