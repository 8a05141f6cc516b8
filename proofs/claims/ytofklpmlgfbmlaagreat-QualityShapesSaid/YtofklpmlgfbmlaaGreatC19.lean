/- Walks by the abstract run: the reference of quality, the sides. -/
import Derived.Test.YtofklpmlgfbmlaaGreatC12
import Derived.Test.YtofklpmlgfbmlaaGreatC16
import Derived.Test.YtofklpmlgfbmlaaGreatC8
set_option linter.unusedVariables false
set_option linter.unusedSimpArgs false
namespace Go.Proofs.YtofklpmlgfbmlaaGreat.ZRat
open Go.RowKit Go.Proofs.YtofklpmlgfbmlaaGreat.Wd
open Go Go.Proofs.YtofklpmlgfbmlaaGreat.Ab Go.Proofs Go.Proofs.YtofklpmlgfbmlaaGreat.Num Go.Proofs.YtofklpmlgfbmlaaGreat.ZRatP
set_option linter.unusedSimpArgs false
set_option linter.unusedVariables false
set_option maxHeartbeats 8000000
set_option maxRecDepth 100000
noncomputable def RSides : List AV → Option AV
  | [x0, x1, x2] => (ptD x0).bind fun a0 => (ptD x1).bind fun a1 => (ptD x2).bind fun a2 => if canP a0.1 a0.2 ∧ canP a1.1 a1.2 ∧ canP a2.1 a2.2 then some (rint3 (sidesZ a0.1 a0.2 a1.1 a1.2 a2.1 a2.2).1 (sidesZ a0.1 a0.2 a1.1 a1.2 a2.1 a2.2).2.1 (sidesZ a0.1 a0.2 a1.1 a1.2 a2.1 a2.2).2.2) else none
  | _ => none
noncomputable def E_RSides : Env := mkS [(61, Rdist), (31, ZCmp)] [(3, [6, 7, 8]), (6, [6, 7, 8, 9])] [(1, [([], [], false), ([], [], false), ([], [], false), ([], [], false), ([], [], false), ([], [], false), ([], [], false), ([], [], false), ([], [], false), ([], [], false), ([], [], false), ([0], [], false)])]
theorem run_RSides (x0 y0 : Int) (x1 y1 : Int) (x2 y2 : Int) (hc : canP x0 y0 ∧ canP x1 y1 ∧ canP x2 y2) : AEnds E_RSides (finW Tryz.prog Tryz.f30.results) 0 [.code (Tryz.f30.body.getD .skip)] (startA Tryz.f30 [.agg [.int .i64 x0, .int .i64 y0], .agg [.int .i64 x1, .int .i64 y1], .agg [.int .i64 x2, .int .i64 y2]] [] []) (rint3 (sidesZ x0 y0 x1 y1 x2 y2).1 (sidesZ x0 y0 x1 y1 x2 y2).2.1 (sidesZ x0 y0 x1 y1 x2 y2).2.2) := by
  simp only [Tryz.f30, Option.getD_some, startA]
  obtain ⟨k0, k1, k2⟩ := hc
  obtain ⟨hx0, hy0⟩ := can_rng k0
  obtain ⟨hx1, hy1⟩ := can_rng k1
  obtain ⟨hx2, hy2⟩ := can_rng k2
  haveI : SzI x0 2 := SzI.rng hx0
  haveI : SzI y0 2 := SzI.rng hy0
  haveI : SzI x1 2 := SzI.rng hx1
  haveI : SzI y1 2 := SzI.rng hy1
  haveI : SzI x2 2 := SzI.rng hx2
  haveI : SzI y2 2 := SzI.rng hy2
  haveI i1 := szDist (ax := x0) (ay := y0) (bx := x1) (bY := y1)
  haveI i2 := szDist (ax := x1) (ay := y1) (bx := x2) (bY := y2)
  haveI i3 := szDist (ax := x2) (ay := y2) (bx := x0) (bY := y0)
  unfold sidesZ
  generalize hp : distZ x0 y0 x1 y1 = p at *
  generalize hq : distZ x1 y1 x2 y2 = q at *
  generalize hr : distZ x2 y2 x0 y0 = r at *
  by_cases h1 : q < p
  · have g1 := cmpZ_lt0 h1
    by_cases h2 : r < q
    · have g2 := cmpZ_lt0 h2
      rw [show srt3 p q r = sel3 p q r from (sel3_srt p q r).symm]
      unfold sel3
      simp only [h1, h2, if_true, if_false]
      simp (maxSteps := 4000000) (disch := (first | with_reducible rfl | assumption | with_reducible exact WB_NB _ _ | (with_reducible refine nb_le ?_; omega) | (with_reducible refine nb16_le ?_; omega) | omega | (simp only [List.length_append, List.length_map, List.length_cons, List.length_nil, List.length_set, List.length_replicate, List.length_take, List.size_toArray]; omega))) [E_RSides, hp, hq, hr, k0, k1, k2, hx0, hy0, hx1, hy1, hx2, hy2, g1, g2, -Int.sign_mul, -Int.sign_neg, -Int.natAbs_neg]
      repeat
        (first | refine .loop ?_ | refine .again ?_)
        simp only [E_RSides, firstR, mkS_keep, mkR_keep, keepT, List.find?, Nat.reduceBEq, Option.map_some, Option.getD_some]
        simp (maxSteps := 4000000) (disch := (first | with_reducible rfl | assumption | with_reducible exact WB_NB _ _ | (with_reducible refine nb_le ?_; omega) | (with_reducible refine nb16_le ?_; omega) | omega | (simp only [List.length_append, List.length_map, List.length_cons, List.length_nil, List.length_set, List.length_replicate, List.length_take, List.size_toArray]; omega))) [E_RSides, hp, hq, hr, k0, k1, k2, hx0, hy0, hx1, hy1, hx2, hy2, g1, g2, -Int.sign_mul, -Int.sign_neg, -Int.natAbs_neg]
    · have g2 := cmpZ_nlt0 h2
      by_cases h3 : r < p
      · have g3 := cmpZ_lt0 h3
        rw [show srt3 p q r = sel3 p q r from (sel3_srt p q r).symm]
        unfold sel3
        simp only [h1, h2, h3, if_true, if_false]
        simp (maxSteps := 4000000) (disch := (first | with_reducible rfl | assumption | with_reducible exact WB_NB _ _ | (with_reducible refine nb_le ?_; omega) | (with_reducible refine nb16_le ?_; omega) | omega | (simp only [List.length_append, List.length_map, List.length_cons, List.length_nil, List.length_set, List.length_replicate, List.length_take, List.size_toArray]; omega))) [E_RSides, hp, hq, hr, k0, k1, k2, hx0, hy0, hx1, hy1, hx2, hy2, g1, g2, g3, -Int.sign_mul, -Int.sign_neg, -Int.natAbs_neg]
        repeat
          (first | refine .loop ?_ | refine .again ?_)
          simp only [E_RSides, firstR, mkS_keep, mkR_keep, keepT, List.find?, Nat.reduceBEq, Option.map_some, Option.getD_some]
          simp (maxSteps := 4000000) (disch := (first | with_reducible rfl | assumption | with_reducible exact WB_NB _ _ | (with_reducible refine nb_le ?_; omega) | (with_reducible refine nb16_le ?_; omega) | omega | (simp only [List.length_append, List.length_map, List.length_cons, List.length_nil, List.length_set, List.length_replicate, List.length_take, List.size_toArray]; omega))) [E_RSides, hp, hq, hr, k0, k1, k2, hx0, hy0, hx1, hy1, hx2, hy2, g1, g2, g3, -Int.sign_mul, -Int.sign_neg, -Int.natAbs_neg]
      · have g3 := cmpZ_nlt0 h3
        rw [show srt3 p q r = sel3 p q r from (sel3_srt p q r).symm]
        unfold sel3
        simp only [h1, h2, h3, if_true, if_false]
        simp (maxSteps := 4000000) (disch := (first | with_reducible rfl | assumption | with_reducible exact WB_NB _ _ | (with_reducible refine nb_le ?_; omega) | (with_reducible refine nb16_le ?_; omega) | omega | (simp only [List.length_append, List.length_map, List.length_cons, List.length_nil, List.length_set, List.length_replicate, List.length_take, List.size_toArray]; omega))) [E_RSides, hp, hq, hr, k0, k1, k2, hx0, hy0, hx1, hy1, hx2, hy2, g1, g2, g3, -Int.sign_mul, -Int.sign_neg, -Int.natAbs_neg]
        repeat
          (first | refine .loop ?_ | refine .again ?_)
          simp only [E_RSides, firstR, mkS_keep, mkR_keep, keepT, List.find?, Nat.reduceBEq, Option.map_some, Option.getD_some]
          simp (maxSteps := 4000000) (disch := (first | with_reducible rfl | assumption | with_reducible exact WB_NB _ _ | (with_reducible refine nb_le ?_; omega) | (with_reducible refine nb16_le ?_; omega) | omega | (simp only [List.length_append, List.length_map, List.length_cons, List.length_nil, List.length_set, List.length_replicate, List.length_take, List.size_toArray]; omega))) [E_RSides, hp, hq, hr, k0, k1, k2, hx0, hy0, hx1, hy1, hx2, hy2, g1, g2, g3, -Int.sign_mul, -Int.sign_neg, -Int.natAbs_neg]
  · have g1 := cmpZ_nlt0 h1
    by_cases h2 : r < p
    · have g2 := cmpZ_lt0 h2
      by_cases h3 : p < q
      · have g3 := cmpZ_lt0 h3
        rw [show srt3 p q r = sel3 p q r from (sel3_srt p q r).symm]
        unfold sel3
        simp only [h1, h2, h3, if_true, if_false]
        simp (maxSteps := 4000000) (disch := (first | with_reducible rfl | assumption | with_reducible exact WB_NB _ _ | (with_reducible refine nb_le ?_; omega) | (with_reducible refine nb16_le ?_; omega) | omega | (simp only [List.length_append, List.length_map, List.length_cons, List.length_nil, List.length_set, List.length_replicate, List.length_take, List.size_toArray]; omega))) [E_RSides, hp, hq, hr, k0, k1, k2, hx0, hy0, hx1, hy1, hx2, hy2, g1, g2, g3, -Int.sign_mul, -Int.sign_neg, -Int.natAbs_neg]
        repeat
          (first | refine .loop ?_ | refine .again ?_)
          simp only [E_RSides, firstR, mkS_keep, mkR_keep, keepT, List.find?, Nat.reduceBEq, Option.map_some, Option.getD_some]
          simp (maxSteps := 4000000) (disch := (first | with_reducible rfl | assumption | with_reducible exact WB_NB _ _ | (with_reducible refine nb_le ?_; omega) | (with_reducible refine nb16_le ?_; omega) | omega | (simp only [List.length_append, List.length_map, List.length_cons, List.length_nil, List.length_set, List.length_replicate, List.length_take, List.size_toArray]; omega))) [E_RSides, hp, hq, hr, k0, k1, k2, hx0, hy0, hx1, hy1, hx2, hy2, g1, g2, g3, -Int.sign_mul, -Int.sign_neg, -Int.natAbs_neg]
      · have g3 := cmpZ_nlt0 h3
        rw [show srt3 p q r = sel3 p q r from (sel3_srt p q r).symm]
        unfold sel3
        simp only [h1, h2, h3, if_true, if_false]
        simp (maxSteps := 4000000) (disch := (first | with_reducible rfl | assumption | with_reducible exact WB_NB _ _ | (with_reducible refine nb_le ?_; omega) | (with_reducible refine nb16_le ?_; omega) | omega | (simp only [List.length_append, List.length_map, List.length_cons, List.length_nil, List.length_set, List.length_replicate, List.length_take, List.size_toArray]; omega))) [E_RSides, hp, hq, hr, k0, k1, k2, hx0, hy0, hx1, hy1, hx2, hy2, g1, g2, g3, -Int.sign_mul, -Int.sign_neg, -Int.natAbs_neg]
        repeat
          (first | refine .loop ?_ | refine .again ?_)
          simp only [E_RSides, firstR, mkS_keep, mkR_keep, keepT, List.find?, Nat.reduceBEq, Option.map_some, Option.getD_some]
          simp (maxSteps := 4000000) (disch := (first | with_reducible rfl | assumption | with_reducible exact WB_NB _ _ | (with_reducible refine nb_le ?_; omega) | (with_reducible refine nb16_le ?_; omega) | omega | (simp only [List.length_append, List.length_map, List.length_cons, List.length_nil, List.length_set, List.length_replicate, List.length_take, List.size_toArray]; omega))) [E_RSides, hp, hq, hr, k0, k1, k2, hx0, hy0, hx1, hy1, hx2, hy2, g1, g2, g3, -Int.sign_mul, -Int.sign_neg, -Int.natAbs_neg]
    · have g2 := cmpZ_nlt0 h2
      by_cases h3 : r < q
      · have g3 := cmpZ_lt0 h3
        rw [show srt3 p q r = sel3 p q r from (sel3_srt p q r).symm]
        unfold sel3
        simp only [h1, h2, h3, if_true, if_false]
        simp (maxSteps := 4000000) (disch := (first | with_reducible rfl | assumption | with_reducible exact WB_NB _ _ | (with_reducible refine nb_le ?_; omega) | (with_reducible refine nb16_le ?_; omega) | omega | (simp only [List.length_append, List.length_map, List.length_cons, List.length_nil, List.length_set, List.length_replicate, List.length_take, List.size_toArray]; omega))) [E_RSides, hp, hq, hr, k0, k1, k2, hx0, hy0, hx1, hy1, hx2, hy2, g1, g2, g3, -Int.sign_mul, -Int.sign_neg, -Int.natAbs_neg]
        repeat
          (first | refine .loop ?_ | refine .again ?_)
          simp only [E_RSides, firstR, mkS_keep, mkR_keep, keepT, List.find?, Nat.reduceBEq, Option.map_some, Option.getD_some]
          simp (maxSteps := 4000000) (disch := (first | with_reducible rfl | assumption | with_reducible exact WB_NB _ _ | (with_reducible refine nb_le ?_; omega) | (with_reducible refine nb16_le ?_; omega) | omega | (simp only [List.length_append, List.length_map, List.length_cons, List.length_nil, List.length_set, List.length_replicate, List.length_take, List.size_toArray]; omega))) [E_RSides, hp, hq, hr, k0, k1, k2, hx0, hy0, hx1, hy1, hx2, hy2, g1, g2, g3, -Int.sign_mul, -Int.sign_neg, -Int.natAbs_neg]
      · have g3 := cmpZ_nlt0 h3
        rw [show srt3 p q r = sel3 p q r from (sel3_srt p q r).symm]
        unfold sel3
        simp only [h1, h2, h3, if_true, if_false]
        simp (maxSteps := 4000000) (disch := (first | with_reducible rfl | assumption | with_reducible exact WB_NB _ _ | (with_reducible refine nb_le ?_; omega) | (with_reducible refine nb16_le ?_; omega) | omega | (simp only [List.length_append, List.length_map, List.length_cons, List.length_nil, List.length_set, List.length_replicate, List.length_take, List.size_toArray]; omega))) [E_RSides, hp, hq, hr, k0, k1, k2, hx0, hy0, hx1, hy1, hx2, hy2, g1, g2, g3, -Int.sign_mul, -Int.sign_neg, -Int.natAbs_neg]
        repeat
          (first | refine .loop ?_ | refine .again ?_)
          simp only [E_RSides, firstR, mkS_keep, mkR_keep, keepT, List.find?, Nat.reduceBEq, Option.map_some, Option.getD_some]
          simp (maxSteps := 4000000) (disch := (first | with_reducible rfl | assumption | with_reducible exact WB_NB _ _ | (with_reducible refine nb_le ?_; omega) | (with_reducible refine nb16_le ?_; omega) | omega | (simp only [List.length_append, List.length_map, List.length_cons, List.length_nil, List.length_set, List.length_replicate, List.length_take, List.size_toArray]; omega))) [E_RSides, hp, hq, hr, k0, k1, k2, hx0, hy0, hx1, hy1, hx2, hy2, g1, g2, g3, -Int.sign_mul, -Int.sign_neg, -Int.natAbs_neg]
theorem sRSides : GoodS (30, RSides) := by
  intro xs r h
  simp only at h
  unfold RSides at h
  split at h
  · obtain ⟨a0, h0, h⟩ := Option.bind_eq_some_iff.1 h
    obtain ⟨a1, h1, h⟩ := Option.bind_eq_some_iff.1 h
    obtain ⟨a2, h2, h⟩ := Option.bind_eq_some_iff.1 h
    split at h
    · rename_i hc
      cases h
      (obtain ⟨x0, y0⟩ := a0); (obtain rfl := ptD_out h0)
      (obtain ⟨x1, y1⟩ := a1); (obtain rfl := ptD_out h1)
      (obtain ⟨x2, y2⟩ := a2); (obtain rfl := ptD_out h2)
      exact .inl <| okW_ends (mkS_ok (alls_cons sRdist (alls_cons sZCmp alls_nil))) mixed Tryz.func30 rfl (by kernel_rfl : Fits Tryz.prog E_RSides.ref E_RSides.dep Tryz.f30 = true) (run_RSides _ _ _ _ _ _ hc)
    · cases h
  · cases h
attribute [simp] RSides
end Go.Proofs.YtofklpmlgfbmlaaGreat.ZRat
