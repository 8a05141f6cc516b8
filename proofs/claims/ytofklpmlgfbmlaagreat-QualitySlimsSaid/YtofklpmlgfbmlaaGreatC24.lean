/- Walks by the abstract run: the reference of quality, slim. -/
import Derived.Test.YtofklpmlgfbmlaaGreatC12
import Derived.Test.YtofklpmlgfbmlaaGreatC17
import Derived.Test.YtofklpmlgfbmlaaGreatC19
import Derived.Test.YtofklpmlgfbmlaaGreatC22
import Derived.Test.YtofklpmlgfbmlaaGreatC8
import Derived.Test.YtofklpmlgfbmlaaGreatC9
set_option linter.unusedVariables false
set_option linter.unusedSimpArgs false
namespace Go.Proofs.YtofklpmlgfbmlaaGreat.ZRat
open Go.RowKit Go.Proofs.YtofklpmlgfbmlaaGreat.Wd
open Go Go.Proofs.YtofklpmlgfbmlaaGreat.Ab Go.Proofs Go.Proofs.YtofklpmlgfbmlaaGreat.Num Go.Proofs.YtofklpmlgfbmlaaGreat.ZRatP
set_option linter.unusedSimpArgs false
set_option linter.unusedVariables false
set_option maxHeartbeats 8000000
set_option maxRecDepth 100000
theorem sin_eq {ax ay bx bY cx cy : Int} (h : crossZ ax ay bx bY cx cy ≠ 0) : mkRat (crossZ ax ay bx bY cx cy * crossZ ax ay bx bY cx cy) ((sidesZ ax ay bx bY cx cy).2.1 * (sidesZ ax ay bx bY cx cy).2.2).natAbs = sinZ ax ay bx bY cx cy := by
  obtain ⟨-, s1, s2⟩ := sides_pos h
  unfold sinZ
  rw [Rat.mkRat_eq_div, natAbsQ' (Int.mul_pos s1 s2)]
/-- None is less slim than one third. -/
noncomputable def E_RSlim : Env := mkS [(30, RSides), (80, RArea), (35, ZMul), (41, ZLong), (81, FOver), (63, FLow)] [] [(1, [([], [], false), ([], [], false), ([], [], false), ([], [], false), ([], [], false), ([], [], false), ([], [], false), ([], [], false), ([], [], false), ([], [], false), ([0, 1], [], false), ([0, 1], [], false)])]
theorem run_RSlim (x0 y0 : Int) (x1 y1 : Int) (x2 y2 : Int) (hc : turnC x0 y0 x1 y1 x2 y2) : AEnds E_RSlim (finW Tryz.prog Tryz.f39.results) 0 [.code (Tryz.f39.body.getD .skip)] (startA Tryz.f39 [.agg [.int .i64 x0, .int .i64 y0], .agg [.int .i64 x1, .int .i64 y1], .agg [.int .i64 x2, .int .i64 y2]] [] []) (rratA (slimZ x0 y0 x1 y1 x2 y2).num (slimZ x0 y0 x1 y1 x2 y2).den) := by
  simp only [Tryz.f39, Option.getD_some, startA]
  obtain ⟨hc0, hc1⟩ := hc
  obtain ⟨k0, k1, k2⟩ := hc0
  have hcr : crossZ x0 y0 x1 y1 x2 y2 ≠ 0 := Int.ne_of_gt hc1
  obtain ⟨hx0, hy0⟩ := can_rng k0
  obtain ⟨hx1, hy1⟩ := can_rng k1
  obtain ⟨hx2, hy2⟩ := can_rng k2
  haveI : SzI x0 2 := SzI.rng hx0
  haveI : SzI y0 2 := SzI.rng hy0
  haveI : SzI x1 2 := SzI.rng hx1
  haveI : SzI y1 2 := SzI.rng hy1
  haveI : SzI x2 2 := SzI.rng hx2
  haveI : SzI y2 2 := SzI.rng hy2
  have sb := sides_b ⟨k0, k1, k2⟩
  have sp := sides_pos hcr
  have cb := cross_b ⟨k0, k1, k2⟩
  have sle := @slim_eq x0 y0 x1 y1 x2 y2 hcr
  have sne := @sin_eq x0 y0 x1 y1 x2 y2 hcr
  have cpz := cpos hcr
  generalize slimZ x0 y0 x1 y1 x2 y2 = T at *
  generalize sinZ x0 y0 x1 y1 x2 y2 = U at *
  generalize hc : crossZ x0 y0 x1 y1 x2 y2 = c at *
  generalize hs0 : (sidesZ x0 y0 x1 y1 x2 y2).1 = s0 at *
  generalize hs1 : (sidesZ x0 y0 x1 y1 x2 y2).2.1 = s1 at *
  generalize hs2 : (sidesZ x0 y0 x1 y1 x2 y2).2.2 = s2 at *
  haveI : SzI s0 3 := ⟨by omega⟩
  haveI : SzI s1 3 := ⟨by omega⟩
  haveI : SzI s2 3 := ⟨by omega⟩
  haveI : SzI c 3 := ⟨by omega⟩
  have m1 := Int.mul_pos sp.2.1 sp.2.2
  have n1 : ¬ 4 * (c * c) < 0 := by omega
  have n2 : ¬ 4 * (c * c) = 0 := by omega
  have n3 : ¬ s1 * s2 < 0 := by omega
  have n4 : ¬ s1 * s2 = 0 := by omega
  clear sb sp cb cpz m1
  simp (maxSteps := 4000000) (disch := (first | with_reducible rfl | assumption | with_reducible exact WB_NB _ _ | (with_reducible refine nb_le ?_; omega) | (with_reducible refine nb16_le ?_; omega) | omega | (simp only [List.length_append, List.length_map, List.length_cons, List.length_nil, List.length_set, List.length_replicate, List.length_take, List.size_toArray]; omega))) [E_RSlim, k0, k1, k2, hx0, hy0, hx1, hy1, hx2, hy2, hc, hs0, hs1, hs2, n1, n2, sle, -Int.sign_mul, -Int.sign_neg, -Int.natAbs_neg]
theorem sRSlim : GoodS (39, RSlim) := by
  intro xs r h
  simp only at h
  unfold RSlim at h
  split at h
  · obtain ⟨a0, h0, h⟩ := Option.bind_eq_some_iff.1 h
    obtain ⟨a1, h1, h⟩ := Option.bind_eq_some_iff.1 h
    obtain ⟨a2, h2, h⟩ := Option.bind_eq_some_iff.1 h
    split at h
    · rename_i hc
      cases h
      (obtain ⟨x0, y0⟩ := a0); (obtain rfl := ptD_out h0)
      (obtain ⟨x1, y1⟩ := a1); (obtain rfl := ptD_out h1)
      (obtain ⟨x2, y2⟩ := a2); (obtain rfl := ptD_out h2)
      exact .inl <| okW_ends (mkS_ok (alls_cons sRSides (alls_cons sRArea (alls_cons sZMul (alls_cons sZLong (alls_cons sFOver (alls_cons sFLow alls_nil))))))) mixed Tryz.func39 rfl (by kernel_rfl : Fits Tryz.prog E_RSlim.ref E_RSlim.dep Tryz.f39 = true) (run_RSlim _ _ _ _ _ _ hc)
    · cases h
  · cases h
noncomputable def E_RSin2 : Env := mkS [(30, RSides), (80, RArea), (35, ZMul), (81, FOver), (63, FLow)] [] [(1, [([], [], false), ([], [], false), ([], [], false), ([], [], false), ([], [], false), ([], [], false), ([], [], false), ([], [], false), ([], [], false), ([], [], false), ([0, 1], [], false), ([0, 1], [], false)])]
theorem run_RSin2 (x0 y0 : Int) (x1 y1 : Int) (x2 y2 : Int) (hc : turnC x0 y0 x1 y1 x2 y2) : AEnds E_RSin2 (finW Tryz.prog Tryz.f36.results) 0 [.code (Tryz.f36.body.getD .skip)] (startA Tryz.f36 [.agg [.int .i64 x0, .int .i64 y0], .agg [.int .i64 x1, .int .i64 y1], .agg [.int .i64 x2, .int .i64 y2]] [] []) (rratA (sinZ x0 y0 x1 y1 x2 y2).num (sinZ x0 y0 x1 y1 x2 y2).den) := by
  simp only [Tryz.f36, Option.getD_some, startA]
  obtain ⟨hc0, hc1⟩ := hc
  obtain ⟨k0, k1, k2⟩ := hc0
  have hcr : crossZ x0 y0 x1 y1 x2 y2 ≠ 0 := Int.ne_of_gt hc1
  obtain ⟨hx0, hy0⟩ := can_rng k0
  obtain ⟨hx1, hy1⟩ := can_rng k1
  obtain ⟨hx2, hy2⟩ := can_rng k2
  haveI : SzI x0 2 := SzI.rng hx0
  haveI : SzI y0 2 := SzI.rng hy0
  haveI : SzI x1 2 := SzI.rng hx1
  haveI : SzI y1 2 := SzI.rng hy1
  haveI : SzI x2 2 := SzI.rng hx2
  haveI : SzI y2 2 := SzI.rng hy2
  have sb := sides_b ⟨k0, k1, k2⟩
  have sp := sides_pos hcr
  have cb := cross_b ⟨k0, k1, k2⟩
  have sle := @slim_eq x0 y0 x1 y1 x2 y2 hcr
  have sne := @sin_eq x0 y0 x1 y1 x2 y2 hcr
  have cpz := cpos hcr
  generalize slimZ x0 y0 x1 y1 x2 y2 = T at *
  generalize sinZ x0 y0 x1 y1 x2 y2 = U at *
  generalize hc : crossZ x0 y0 x1 y1 x2 y2 = c at *
  generalize hs0 : (sidesZ x0 y0 x1 y1 x2 y2).1 = s0 at *
  generalize hs1 : (sidesZ x0 y0 x1 y1 x2 y2).2.1 = s1 at *
  generalize hs2 : (sidesZ x0 y0 x1 y1 x2 y2).2.2 = s2 at *
  haveI : SzI s0 3 := ⟨by omega⟩
  haveI : SzI s1 3 := ⟨by omega⟩
  haveI : SzI s2 3 := ⟨by omega⟩
  haveI : SzI c 3 := ⟨by omega⟩
  have m1 := Int.mul_pos sp.2.1 sp.2.2
  have n1 : ¬ 4 * (c * c) < 0 := by omega
  have n2 : ¬ 4 * (c * c) = 0 := by omega
  have n3 : ¬ s1 * s2 < 0 := by omega
  have n4 : ¬ s1 * s2 = 0 := by omega
  clear sb sp cb cpz m1
  simp (maxSteps := 4000000) (disch := (first | with_reducible rfl | assumption | with_reducible exact WB_NB _ _ | (with_reducible refine nb_le ?_; omega) | (with_reducible refine nb16_le ?_; omega) | omega | (simp only [List.length_append, List.length_map, List.length_cons, List.length_nil, List.length_set, List.length_replicate, List.length_take, List.size_toArray]; omega))) [E_RSin2, k0, k1, k2, hx0, hy0, hx1, hy1, hx2, hy2, hc, hs0, hs1, hs2, n3, n4, sne, -Int.sign_mul, -Int.sign_neg, -Int.natAbs_neg]
theorem sRSin2 : GoodS (36, RSin2) := by
  intro xs r h
  simp only at h
  unfold RSin2 at h
  split at h
  · obtain ⟨a0, h0, h⟩ := Option.bind_eq_some_iff.1 h
    obtain ⟨a1, h1, h⟩ := Option.bind_eq_some_iff.1 h
    obtain ⟨a2, h2, h⟩ := Option.bind_eq_some_iff.1 h
    split at h
    · rename_i hc
      cases h
      (obtain ⟨x0, y0⟩ := a0); (obtain rfl := ptD_out h0)
      (obtain ⟨x1, y1⟩ := a1); (obtain rfl := ptD_out h1)
      (obtain ⟨x2, y2⟩ := a2); (obtain rfl := ptD_out h2)
      exact .inl <| okW_ends (mkS_ok (alls_cons sRSides (alls_cons sRArea (alls_cons sZMul (alls_cons sFOver (alls_cons sFLow alls_nil)))))) mixed Tryz.func36 rfl (by kernel_rfl : Fits Tryz.prog E_RSin2.ref E_RSin2.dep Tryz.f36 = true) (run_RSin2 _ _ _ _ _ _ hc)
    · cases h
  · cases h
end Go.Proofs.YtofklpmlgfbmlaaGreat.ZRat
