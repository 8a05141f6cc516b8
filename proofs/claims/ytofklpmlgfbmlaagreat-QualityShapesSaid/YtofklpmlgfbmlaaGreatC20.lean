/- Walks by the abstract run: predicates. -/
import Derived.Test.YtofklpmlgfbmlaaGreatC10
import Derived.Test.YtofklpmlgfbmlaaGreatC8
set_option linter.unusedVariables false
set_option linter.unusedSimpArgs false
namespace Go.Proofs.YtofklpmlgfbmlaaGreat.ZRat
open Go.RowKit Go.Proofs.YtofklpmlgfbmlaaGreat.Wd
open Go Go.Proofs.YtofklpmlgfbmlaaGreat.Ab Go.Proofs Go.Proofs.YtofklpmlgfbmlaaGreat.Num Go.Proofs.YtofklpmlgfbmlaaGreat.ZRatP
set_option linter.unusedSimpArgs false
set_option linter.unusedVariables false
set_option maxHeartbeats 8000000
set_option maxRecDepth 100000
noncomputable def LWithin : List AV → Option AV
  | [x0] => (unN .i64 x0).bind fun a0 => some (.bool (decide (inP a0)))
  | _ => none
noncomputable def E_LWithin : Env := mkS [] [] []
theorem run_LWithin (a0 : Int) : AEnds E_LWithin (finW Tryz.prog Tryz.f142.results) 0 [.code (Tryz.f142.body.getD .skip)] (startA Tryz.f142 [.int .i64 a0] [] []) (.bool (decide (inP a0))) := by
  simp only [Tryz.f142, Option.getD_some, startA]
  unfold inP
  by_cases h0 : -1099511627776 ≤ a0
  · by_cases h1 : a0 ≤ 1099511627776
    · simp (maxSteps := 4000000) (disch := (first | with_reducible rfl | assumption | with_reducible exact WB_NB _ _ | (with_reducible refine nb_le ?_; omega) | (with_reducible refine nb16_le ?_; omega) | omega | (simp only [List.length_append, List.length_map, List.length_cons, List.length_nil, List.length_set, List.length_replicate, List.length_take, List.size_toArray]; omega))) [E_LWithin, h0, h1]
    · simp (maxSteps := 4000000) (disch := (first | with_reducible rfl | assumption | with_reducible exact WB_NB _ _ | (with_reducible refine nb_le ?_; omega) | (with_reducible refine nb16_le ?_; omega) | omega | (simp only [List.length_append, List.length_map, List.length_cons, List.length_nil, List.length_set, List.length_replicate, List.length_take, List.size_toArray]; omega))) [E_LWithin, h0, h1]
  · simp (maxSteps := 4000000) (disch := (first | with_reducible rfl | assumption | with_reducible exact WB_NB _ _ | (with_reducible refine nb_le ?_; omega) | (with_reducible refine nb16_le ?_; omega) | omega | (simp only [List.length_append, List.length_map, List.length_cons, List.length_nil, List.length_set, List.length_replicate, List.length_take, List.size_toArray]; omega))) [E_LWithin, h0]
theorem sLWithin : GoodS (142, LWithin) := by
  intro xs r h
  simp only at h
  unfold LWithin at h
  split at h
  · obtain ⟨a0, h0, h⟩ := Option.bind_eq_some_iff.1 h
    cases h
    obtain rfl := unN_eq h0
    exact .inl <| okW_ends (mkS_ok alls_nil) mixed Tryz.func142 rfl (by kernel_rfl : Fits Tryz.prog E_LWithin.ref E_LWithin.dep Tryz.f142 = true) (run_LWithin _)
  · cases h
attribute [simp] LWithin
noncomputable def Lcan : List AV → Option AV
  | [x0] => (ptD x0).bind fun a0 => some (.bool (decide (canP a0.1 a0.2)))
  | _ => none
noncomputable def E_Lcan : Env := mkS [(142, LWithin)] [] []
theorem run_Lcan (x0 y0 : Int) : AEnds E_Lcan (finW Tryz.prog Tryz.f89.results) 0 [.code (Tryz.f89.body.getD .skip)] (startA Tryz.f89 [.agg [.int .i64 x0, .int .i64 y0]] [] []) (.bool (decide (canP x0 y0))) := by
  simp only [Tryz.f89, Option.getD_some, startA]
  unfold canP
  by_cases h0 : inP x0
  · by_cases h1 : inP y0
    · simp (maxSteps := 4000000) (disch := (first | with_reducible rfl | assumption | with_reducible exact WB_NB _ _ | (with_reducible refine nb_le ?_; omega) | (with_reducible refine nb16_le ?_; omega) | omega | (simp only [List.length_append, List.length_map, List.length_cons, List.length_nil, List.length_set, List.length_replicate, List.length_take, List.size_toArray]; omega))) [E_Lcan, h0, h1]
    · simp (maxSteps := 4000000) (disch := (first | with_reducible rfl | assumption | with_reducible exact WB_NB _ _ | (with_reducible refine nb_le ?_; omega) | (with_reducible refine nb16_le ?_; omega) | omega | (simp only [List.length_append, List.length_map, List.length_cons, List.length_nil, List.length_set, List.length_replicate, List.length_take, List.size_toArray]; omega))) [E_Lcan, h0, h1]
  · simp (maxSteps := 4000000) (disch := (first | with_reducible rfl | assumption | with_reducible exact WB_NB _ _ | (with_reducible refine nb_le ?_; omega) | (with_reducible refine nb16_le ?_; omega) | omega | (simp only [List.length_append, List.length_map, List.length_cons, List.length_nil, List.length_set, List.length_replicate, List.length_take, List.size_toArray]; omega))) [E_Lcan, h0]
theorem sLcan : GoodS (89, Lcan) := by
  intro xs r h
  simp only at h
  unfold Lcan at h
  split at h
  · obtain ⟨a0, h0, h⟩ := Option.bind_eq_some_iff.1 h
    cases h
    (obtain ⟨x0, y0⟩ := a0); (obtain rfl := ptD_out h0)
    exact .inl <| okW_ends (mkS_ok (alls_cons sLWithin alls_nil)) mixed Tryz.func89 rfl (by kernel_rfl : Fits Tryz.prog E_Lcan.ref E_Lcan.dep Tryz.f89 = true) (run_Lcan _ _)
  · cases h
attribute [simp] Lcan
noncomputable def LCan : List AV → Option AV
  | [x0] => (ptD x0).bind fun a0 => some (.bool (decide (canP a0.1 a0.2)))
  | _ => none
noncomputable def E_LCan : Env := mkS [(89, Lcan)] [] []
theorem run_LCan (x0 y0 : Int) : AEnds E_LCan (finW Tryz.prog Tryz.f45.results) 0 [.code (Tryz.f45.body.getD .skip)] (startA Tryz.f45 [.agg [.int .i64 x0, .int .i64 y0]] [] []) (.bool (decide (canP x0 y0))) := by
  simp only [Tryz.f45, Option.getD_some, startA]
  simp (maxSteps := 4000000) (disch := (first | with_reducible rfl | assumption | with_reducible exact WB_NB _ _ | (with_reducible refine nb_le ?_; omega) | (with_reducible refine nb16_le ?_; omega) | omega | (simp only [List.length_append, List.length_map, List.length_cons, List.length_nil, List.length_set, List.length_replicate, List.length_take, List.size_toArray]; omega))) [E_LCan]
theorem sLCan : GoodS (45, LCan) := by
  intro xs r h
  simp only at h
  unfold LCan at h
  split at h
  · obtain ⟨a0, h0, h⟩ := Option.bind_eq_some_iff.1 h
    cases h
    (obtain ⟨x0, y0⟩ := a0); (obtain rfl := ptD_out h0)
    exact .inl <| okW_ends (mkS_ok (alls_cons sLcan alls_nil)) mixed Tryz.func45 rfl (by kernel_rfl : Fits Tryz.prog E_LCan.ref E_LCan.dep Tryz.f45 = true) (run_LCan _ _)
  · cases h
attribute [simp] LCan
noncomputable def PCan : List AV → Option AV
  | [.row 2 [.int .i64 a, .int .i64 b, .int .i64 c, .int .i64 d]] => some (.bool (decide (canP a b ∧ canP c d)))
  | [.row 3 [.int .i64 a, .int .i64 b, .int .i64 c, .int .i64 d, .int .i64 e, .int .i64 f]] => some (.bool (decide (canP a b ∧ canP c d ∧ canP e f)))
  | _ => none
noncomputable def E_PCan : Env := mkS [(45, LCan)] [(2, [5, 6, 7])] []
theorem run_PCan2 (a b c d : Int) : AEnds E_PCan (finW Tryz.prog Tryz.f101.results) 0 [.code (Tryz.f101.body.getD .skip)] (startA Tryz.f101 [.row 2 [.int .i64 a, .int .i64 b, .int .i64 c, .int .i64 d]] [] []) (.bool (decide (canP a b ∧ canP c d))) := by
  simp only [Tryz.f101, Option.getD_some, startA]
  by_cases h1 : canP a b
  · by_cases h2 : canP c d
    · simp (maxSteps := 4000000) (disch := (first | with_reducible rfl | assumption | with_reducible exact WB_NB _ _ | (with_reducible refine nb_le ?_; omega) | (with_reducible refine nb16_le ?_; omega) | omega | (simp only [List.length_append, List.length_map, List.length_cons, List.length_nil, List.length_set, List.length_replicate, List.length_take, List.size_toArray]; omega))) [E_PCan, h1, h2]
      refine .loop ?_
      simp only [E_PCan, firstR, mkS_keep, keepT, List.find?, Nat.reduceBEq, Option.map_some, Option.getD_some]
      simp (maxSteps := 4000000) (disch := (first | with_reducible rfl | assumption | with_reducible exact WB_NB _ _ | (with_reducible refine nb_le ?_; omega) | (with_reducible refine nb16_le ?_; omega) | omega | (simp only [List.length_append, List.length_map, List.length_cons, List.length_nil, List.length_set, List.length_replicate, List.length_take, List.size_toArray]; omega))) [E_PCan, h1, h2]
      refine .again ?_
      simp only [E_PCan, firstR, mkS_keep, keepT, List.find?, Nat.reduceBEq, Option.map_some, Option.getD_some]
      simp (maxSteps := 4000000) (disch := (first | with_reducible rfl | assumption | with_reducible exact WB_NB _ _ | (with_reducible refine nb_le ?_; omega) | (with_reducible refine nb16_le ?_; omega) | omega | (simp only [List.length_append, List.length_map, List.length_cons, List.length_nil, List.length_set, List.length_replicate, List.length_take, List.size_toArray]; omega))) [E_PCan, h1, h2]
      refine .again ?_
      simp only [E_PCan, firstR, mkS_keep, keepT, List.find?, Nat.reduceBEq, Option.map_some, Option.getD_some]
      simp (maxSteps := 4000000) (disch := (first | with_reducible rfl | assumption | with_reducible exact WB_NB _ _ | (with_reducible refine nb_le ?_; omega) | (with_reducible refine nb16_le ?_; omega) | omega | (simp only [List.length_append, List.length_map, List.length_cons, List.length_nil, List.length_set, List.length_replicate, List.length_take, List.size_toArray]; omega))) [E_PCan, h1, h2]
    · simp (maxSteps := 4000000) (disch := (first | with_reducible rfl | assumption | with_reducible exact WB_NB _ _ | (with_reducible refine nb_le ?_; omega) | (with_reducible refine nb16_le ?_; omega) | omega | (simp only [List.length_append, List.length_map, List.length_cons, List.length_nil, List.length_set, List.length_replicate, List.length_take, List.size_toArray]; omega))) [E_PCan, h1, h2]
      refine .loop ?_
      simp only [E_PCan, firstR, mkS_keep, keepT, List.find?, Nat.reduceBEq, Option.map_some, Option.getD_some]
      simp (maxSteps := 4000000) (disch := (first | with_reducible rfl | assumption | with_reducible exact WB_NB _ _ | (with_reducible refine nb_le ?_; omega) | (with_reducible refine nb16_le ?_; omega) | omega | (simp only [List.length_append, List.length_map, List.length_cons, List.length_nil, List.length_set, List.length_replicate, List.length_take, List.size_toArray]; omega))) [E_PCan, h1, h2]
      refine .again ?_
      simp only [E_PCan, firstR, mkS_keep, keepT, List.find?, Nat.reduceBEq, Option.map_some, Option.getD_some]
      simp (maxSteps := 4000000) (disch := (first | with_reducible rfl | assumption | with_reducible exact WB_NB _ _ | (with_reducible refine nb_le ?_; omega) | (with_reducible refine nb16_le ?_; omega) | omega | (simp only [List.length_append, List.length_map, List.length_cons, List.length_nil, List.length_set, List.length_replicate, List.length_take, List.size_toArray]; omega))) [E_PCan, h1, h2]
  · simp (maxSteps := 4000000) (disch := (first | with_reducible rfl | assumption | with_reducible exact WB_NB _ _ | (with_reducible refine nb_le ?_; omega) | (with_reducible refine nb16_le ?_; omega) | omega | (simp only [List.length_append, List.length_map, List.length_cons, List.length_nil, List.length_set, List.length_replicate, List.length_take, List.size_toArray]; omega))) [E_PCan, h1]
    refine .loop ?_
    simp only [E_PCan, firstR, mkS_keep, keepT, List.find?, Nat.reduceBEq, Option.map_some, Option.getD_some]
    simp (maxSteps := 4000000) (disch := (first | with_reducible rfl | assumption | with_reducible exact WB_NB _ _ | (with_reducible refine nb_le ?_; omega) | (with_reducible refine nb16_le ?_; omega) | omega | (simp only [List.length_append, List.length_map, List.length_cons, List.length_nil, List.length_set, List.length_replicate, List.length_take, List.size_toArray]; omega))) [E_PCan, h1]
theorem run_PCan3 (a b c d e f : Int) : AEnds E_PCan (finW Tryz.prog Tryz.f101.results) 0 [.code (Tryz.f101.body.getD .skip)] (startA Tryz.f101 [.row 3 [.int .i64 a, .int .i64 b, .int .i64 c, .int .i64 d, .int .i64 e, .int .i64 f]] [] []) (.bool (decide (canP a b ∧ canP c d ∧ canP e f))) := by
  simp only [Tryz.f101, Option.getD_some, startA]
  by_cases h1 : canP a b
  · by_cases h2 : canP c d
    · by_cases h3 : canP e f
      · simp (maxSteps := 4000000) (disch := (first | with_reducible rfl | assumption | with_reducible exact WB_NB _ _ | (with_reducible refine nb_le ?_; omega) | (with_reducible refine nb16_le ?_; omega) | omega | (simp only [List.length_append, List.length_map, List.length_cons, List.length_nil, List.length_set, List.length_replicate, List.length_take, List.size_toArray]; omega))) [E_PCan, h1, h2, h3]
        refine .loop ?_
        simp only [E_PCan, firstR, mkS_keep, keepT, List.find?, Nat.reduceBEq, Option.map_some, Option.getD_some]
        simp (maxSteps := 4000000) (disch := (first | with_reducible rfl | assumption | with_reducible exact WB_NB _ _ | (with_reducible refine nb_le ?_; omega) | (with_reducible refine nb16_le ?_; omega) | omega | (simp only [List.length_append, List.length_map, List.length_cons, List.length_nil, List.length_set, List.length_replicate, List.length_take, List.size_toArray]; omega))) [E_PCan, h1, h2, h3]
        refine .again ?_
        simp only [E_PCan, firstR, mkS_keep, keepT, List.find?, Nat.reduceBEq, Option.map_some, Option.getD_some]
        simp (maxSteps := 4000000) (disch := (first | with_reducible rfl | assumption | with_reducible exact WB_NB _ _ | (with_reducible refine nb_le ?_; omega) | (with_reducible refine nb16_le ?_; omega) | omega | (simp only [List.length_append, List.length_map, List.length_cons, List.length_nil, List.length_set, List.length_replicate, List.length_take, List.size_toArray]; omega))) [E_PCan, h1, h2, h3]
        refine .again ?_
        simp only [E_PCan, firstR, mkS_keep, keepT, List.find?, Nat.reduceBEq, Option.map_some, Option.getD_some]
        simp (maxSteps := 4000000) (disch := (first | with_reducible rfl | assumption | with_reducible exact WB_NB _ _ | (with_reducible refine nb_le ?_; omega) | (with_reducible refine nb16_le ?_; omega) | omega | (simp only [List.length_append, List.length_map, List.length_cons, List.length_nil, List.length_set, List.length_replicate, List.length_take, List.size_toArray]; omega))) [E_PCan, h1, h2, h3]
        refine .again ?_
        simp only [E_PCan, firstR, mkS_keep, keepT, List.find?, Nat.reduceBEq, Option.map_some, Option.getD_some]
        simp (maxSteps := 4000000) (disch := (first | with_reducible rfl | assumption | with_reducible exact WB_NB _ _ | (with_reducible refine nb_le ?_; omega) | (with_reducible refine nb16_le ?_; omega) | omega | (simp only [List.length_append, List.length_map, List.length_cons, List.length_nil, List.length_set, List.length_replicate, List.length_take, List.size_toArray]; omega))) [E_PCan, h1, h2, h3]
      · simp (maxSteps := 4000000) (disch := (first | with_reducible rfl | assumption | with_reducible exact WB_NB _ _ | (with_reducible refine nb_le ?_; omega) | (with_reducible refine nb16_le ?_; omega) | omega | (simp only [List.length_append, List.length_map, List.length_cons, List.length_nil, List.length_set, List.length_replicate, List.length_take, List.size_toArray]; omega))) [E_PCan, h1, h2, h3]
        refine .loop ?_
        simp only [E_PCan, firstR, mkS_keep, keepT, List.find?, Nat.reduceBEq, Option.map_some, Option.getD_some]
        simp (maxSteps := 4000000) (disch := (first | with_reducible rfl | assumption | with_reducible exact WB_NB _ _ | (with_reducible refine nb_le ?_; omega) | (with_reducible refine nb16_le ?_; omega) | omega | (simp only [List.length_append, List.length_map, List.length_cons, List.length_nil, List.length_set, List.length_replicate, List.length_take, List.size_toArray]; omega))) [E_PCan, h1, h2, h3]
        refine .again ?_
        simp only [E_PCan, firstR, mkS_keep, keepT, List.find?, Nat.reduceBEq, Option.map_some, Option.getD_some]
        simp (maxSteps := 4000000) (disch := (first | with_reducible rfl | assumption | with_reducible exact WB_NB _ _ | (with_reducible refine nb_le ?_; omega) | (with_reducible refine nb16_le ?_; omega) | omega | (simp only [List.length_append, List.length_map, List.length_cons, List.length_nil, List.length_set, List.length_replicate, List.length_take, List.size_toArray]; omega))) [E_PCan, h1, h2, h3]
        refine .again ?_
        simp only [E_PCan, firstR, mkS_keep, keepT, List.find?, Nat.reduceBEq, Option.map_some, Option.getD_some]
        simp (maxSteps := 4000000) (disch := (first | with_reducible rfl | assumption | with_reducible exact WB_NB _ _ | (with_reducible refine nb_le ?_; omega) | (with_reducible refine nb16_le ?_; omega) | omega | (simp only [List.length_append, List.length_map, List.length_cons, List.length_nil, List.length_set, List.length_replicate, List.length_take, List.size_toArray]; omega))) [E_PCan, h1, h2, h3]
    · simp (maxSteps := 4000000) (disch := (first | with_reducible rfl | assumption | with_reducible exact WB_NB _ _ | (with_reducible refine nb_le ?_; omega) | (with_reducible refine nb16_le ?_; omega) | omega | (simp only [List.length_append, List.length_map, List.length_cons, List.length_nil, List.length_set, List.length_replicate, List.length_take, List.size_toArray]; omega))) [E_PCan, h1, h2]
      refine .loop ?_
      simp only [E_PCan, firstR, mkS_keep, keepT, List.find?, Nat.reduceBEq, Option.map_some, Option.getD_some]
      simp (maxSteps := 4000000) (disch := (first | with_reducible rfl | assumption | with_reducible exact WB_NB _ _ | (with_reducible refine nb_le ?_; omega) | (with_reducible refine nb16_le ?_; omega) | omega | (simp only [List.length_append, List.length_map, List.length_cons, List.length_nil, List.length_set, List.length_replicate, List.length_take, List.size_toArray]; omega))) [E_PCan, h1, h2]
      refine .again ?_
      simp only [E_PCan, firstR, mkS_keep, keepT, List.find?, Nat.reduceBEq, Option.map_some, Option.getD_some]
      simp (maxSteps := 4000000) (disch := (first | with_reducible rfl | assumption | with_reducible exact WB_NB _ _ | (with_reducible refine nb_le ?_; omega) | (with_reducible refine nb16_le ?_; omega) | omega | (simp only [List.length_append, List.length_map, List.length_cons, List.length_nil, List.length_set, List.length_replicate, List.length_take, List.size_toArray]; omega))) [E_PCan, h1, h2]
  · simp (maxSteps := 4000000) (disch := (first | with_reducible rfl | assumption | with_reducible exact WB_NB _ _ | (with_reducible refine nb_le ?_; omega) | (with_reducible refine nb16_le ?_; omega) | omega | (simp only [List.length_append, List.length_map, List.length_cons, List.length_nil, List.length_set, List.length_replicate, List.length_take, List.size_toArray]; omega))) [E_PCan, h1]
    refine .loop ?_
    simp only [E_PCan, firstR, mkS_keep, keepT, List.find?, Nat.reduceBEq, Option.map_some, Option.getD_some]
    simp (maxSteps := 4000000) (disch := (first | with_reducible rfl | assumption | with_reducible exact WB_NB _ _ | (with_reducible refine nb_le ?_; omega) | (with_reducible refine nb16_le ?_; omega) | omega | (simp only [List.length_append, List.length_map, List.length_cons, List.length_nil, List.length_set, List.length_replicate, List.length_take, List.size_toArray]; omega))) [E_PCan, h1]
theorem sPCan : GoodS (101, PCan) := by
  intro xs r h
  simp only at h
  unfold PCan at h
  split at h
  · cases h; exact .inl <| okW_ends (mkS_ok (alls_cons sLCan alls_nil)) mixed Tryz.func101 rfl (by kernel_rfl : Fits Tryz.prog E_PCan.ref E_PCan.dep Tryz.f101 = true) (run_PCan2 _ _ _ _)
  · cases h; exact .inl <| okW_ends (mkS_ok (alls_cons sLCan alls_nil)) mixed Tryz.func101 rfl (by kernel_rfl : Fits Tryz.prog E_PCan.ref E_PCan.dep Tryz.f101 = true) (run_PCan3 _ _ _ _ _ _)
  · cases h
attribute [simp] PCan
noncomputable def Pway : List AV → Option AV
  | [x0, x1] => (ptD x0).bind fun a0 => (ptD x1).bind fun a1 => if canP a0.1 a0.2 ∧ canP a1.1 a1.2 then some (.agg [.int .i64 (a1.1 - a0.1), .int .i64 (a1.2 - a0.2)]) else none
  | _ => none
noncomputable def E_Pway : Env := mkS [] [] []
theorem run_Pway (x0 y0 : Int) (x1 y1 : Int) (hc : canP x0 y0 ∧ canP x1 y1) : AEnds E_Pway (finW Tryz.prog Tryz.f103.results) 0 [.code (Tryz.f103.body.getD .skip)] (startA Tryz.f103 [.agg [.int .i64 x0, .int .i64 y0], .agg [.int .i64 x1, .int .i64 y1]] [] []) (.agg [.int .i64 (x1 - x0), .int .i64 (y1 - y0)]) := by
  simp only [Tryz.f103, Option.getD_some, startA]
  unfold canP inP at hc
  have hw1 : wrap64 (x1 - x0) = x1 - x0 := by unfold wrap64; omega
  have hw2 : wrap64 (y1 - y0) = y1 - y0 := by unfold wrap64; omega
  simp (maxSteps := 4000000) (disch := (first | with_reducible rfl | assumption | with_reducible exact WB_NB _ _ | (with_reducible refine nb_le ?_; omega) | (with_reducible refine nb16_le ?_; omega) | omega | (simp only [List.length_append, List.length_map, List.length_cons, List.length_nil, List.length_set, List.length_replicate, List.length_take, List.size_toArray]; omega))) [E_Pway, hw1, hw2]
theorem sPway : GoodS (103, Pway) := by
  intro xs r h
  simp only at h
  unfold Pway at h
  split at h
  · obtain ⟨a0, h0, h⟩ := Option.bind_eq_some_iff.1 h
    obtain ⟨a1, h1, h⟩ := Option.bind_eq_some_iff.1 h
    split at h
    · rename_i hc
      cases h
      (obtain ⟨x0, y0⟩ := a0); (obtain rfl := ptD_out h0)
      (obtain ⟨x1, y1⟩ := a1); (obtain rfl := ptD_out h1)
      exact .inl <| okW_ends (mkS_ok alls_nil) mixed Tryz.func103 rfl (by kernel_rfl : Fits Tryz.prog E_Pway.ref E_Pway.dep Tryz.f103 = true) (run_Pway _ _ _ _ hc)
    · cases h
  · cases h
attribute [simp] Pway
end Go.Proofs.YtofklpmlgfbmlaaGreat.ZRat
namespace Go.Proofs.YtofklpmlgfbmlaaGreat.ZRat
open Go.RowKit Go.Proofs.YtofklpmlgfbmlaaGreat.Wd
open Go Go.Proofs.YtofklpmlgfbmlaaGreat.Ab Go.Proofs Go.Proofs.YtofklpmlgfbmlaaGreat.Num Go.Proofs.YtofklpmlgfbmlaaGreat.ZRatP
set_option linter.unusedSimpArgs false
set_option linter.unusedVariables false
set_option maxHeartbeats 8000000
set_option maxRecDepth 100000
noncomputable def Pacross : List AV → Option AV
  | [x0, x1] => (ptD x0).bind fun a0 => (ptD x1).bind fun a1 => if (-2199023255552 ≤ a0.1 ∧ a0.1 ≤ 2199023255552) ∧ (-2199023255552 ≤ a0.2 ∧ a0.2 ≤ 2199023255552) ∧ (-2199023255552 ≤ a1.1 ∧ a1.1 ≤ 2199023255552) ∧ (-2199023255552 ≤ a1.2 ∧ a1.2 ≤ 2199023255552) then some (wideA (a0.1 * a1.2 - a0.2 * a1.1)) else none
  | _ => none
noncomputable def E_Pacross : Env := mkS [(52, WdMul), (124, WdSub)] [] []
theorem run_Pacross (x0 y0 : Int) (x1 y1 : Int) (hc : (-2199023255552 ≤ x0 ∧ x0 ≤ 2199023255552) ∧ (-2199023255552 ≤ y0 ∧ y0 ≤ 2199023255552) ∧ (-2199023255552 ≤ x1 ∧ x1 ≤ 2199023255552) ∧ (-2199023255552 ≤ y1 ∧ y1 ≤ 2199023255552)) : AEnds E_Pacross (finW Tryz.prog Tryz.f102.results) 0 [.code (Tryz.f102.body.getD .skip)] (startA Tryz.f102 [.agg [.int .i64 x0, .int .i64 y0], .agg [.int .i64 x1, .int .i64 y1]] [] []) (wideA (x0 * y1 - y0 * x1)) := by
  simp only [Tryz.f102, Option.getD_some, startA]
  obtain ⟨h1, h2, h3, h4⟩ := hc
  have q1 := mulB (x := x0) (y := y1) (m := 2199023255552) (n := 2199023255552) h1 h4
  have q2 := mulB (x := y0) (y := x1) (m := 2199023255552) (n := 2199023255552) h2 h3
  have r1 : -9223372036854775808 ≤ x0 := by omega
  have r2 : x0 < 9223372036854775808 := by omega
  have r3 : -9223372036854775808 ≤ y0 := by omega
  have r4 : y0 < 9223372036854775808 := by omega
  have r5 : -9223372036854775808 ≤ x1 := by omega
  have r6 : x1 < 9223372036854775808 := by omega
  have r7 : -9223372036854775808 ≤ y1 := by omega
  have r8 : y1 < 9223372036854775808 := by omega
  have w1 := wideD_A (x0 * y1) (by omega)
  have w2 := wideD_A (y0 * x1) (by omega)
  have s1 : -170141183460469231731687303715884105728 ≤ x0 * y1 - y0 * x1 := by omega
  have s2 : x0 * y1 - y0 * x1 < 170141183460469231731687303715884105728 := by omega
  simp (maxSteps := 4000000) (disch := (first | with_reducible rfl | assumption | with_reducible exact WB_NB _ _ | (with_reducible refine nb_le ?_; omega) | (with_reducible refine nb16_le ?_; omega) | omega | (simp only [List.length_append, List.length_map, List.length_cons, List.length_nil, List.length_set, List.length_replicate, List.length_take, List.size_toArray]; omega))) [E_Pacross, r1, r2, r3, r4, r5, r6, r7, r8, w1, w2, s1, s2, wideA]
theorem sPacross : GoodS (102, Pacross) := by
  intro xs r h
  simp only at h
  unfold Pacross at h
  split at h
  · obtain ⟨a0, h0, h⟩ := Option.bind_eq_some_iff.1 h
    obtain ⟨a1, h1, h⟩ := Option.bind_eq_some_iff.1 h
    split at h
    · rename_i hc
      cases h
      (obtain ⟨x0, y0⟩ := a0); (obtain rfl := ptD_out h0)
      (obtain ⟨x1, y1⟩ := a1); (obtain rfl := ptD_out h1)
      exact .inl <| okW_ends (mkS_ok (alls_cons sWdMul (alls_cons sWdSub alls_nil))) mixed Tryz.func102 rfl (by kernel_rfl : Fits Tryz.prog E_Pacross.ref E_Pacross.dep Tryz.f102 = true) (run_Pacross _ _ _ _ hc)
    · cases h
  · cases h
attribute [simp] Pacross
noncomputable def Psquare : List AV → Option AV
  | [x0] => (ptD x0).bind fun a0 => if (-2199023255552 ≤ a0.1 ∧ a0.1 ≤ 2199023255552) ∧ (-2199023255552 ≤ a0.2 ∧ a0.2 ≤ 2199023255552) then some (wideA (a0.1 * a0.1 + a0.2 * a0.2)) else none
  | _ => none
noncomputable def E_Psquare : Env := mkS [(52, WdMul), (125, WdAdd)] [] []
theorem run_Psquare (x0 y0 : Int) (hc : (-2199023255552 ≤ x0 ∧ x0 ≤ 2199023255552) ∧ (-2199023255552 ≤ y0 ∧ y0 ≤ 2199023255552)) : AEnds E_Psquare (finW Tryz.prog Tryz.f105.results) 0 [.code (Tryz.f105.body.getD .skip)] (startA Tryz.f105 [.agg [.int .i64 x0, .int .i64 y0]] [] []) (wideA (x0 * x0 + y0 * y0)) := by
  simp only [Tryz.f105, Option.getD_some, startA]
  obtain ⟨h1, h2⟩ := hc
  have q1 := mulB (x := x0) (y := x0) (m := 2199023255552) (n := 2199023255552) h1 h1
  have q2 := mulB (x := y0) (y := y0) (m := 2199023255552) (n := 2199023255552) h2 h2
  have r1 : -9223372036854775808 ≤ x0 := by omega
  have r2 : x0 < 9223372036854775808 := by omega
  have r3 : -9223372036854775808 ≤ y0 := by omega
  have r4 : y0 < 9223372036854775808 := by omega
  have w1 := wideD_A (x0 * x0) (by omega)
  have w2 := wideD_A (y0 * y0) (by omega)
  have s1 : -170141183460469231731687303715884105728 ≤ x0 * x0 + y0 * y0 := by omega
  have s2 : x0 * x0 + y0 * y0 < 170141183460469231731687303715884105728 := by omega
  simp (maxSteps := 4000000) (disch := (first | with_reducible rfl | assumption | with_reducible exact WB_NB _ _ | (with_reducible refine nb_le ?_; omega) | (with_reducible refine nb16_le ?_; omega) | omega | (simp only [List.length_append, List.length_map, List.length_cons, List.length_nil, List.length_set, List.length_replicate, List.length_take, List.size_toArray]; omega))) [E_Psquare, r1, r2, r3, r4, w1, w2, s1, s2, wideA]
theorem sPsquare : GoodS (105, Psquare) := by
  intro xs r h
  simp only at h
  unfold Psquare at h
  split at h
  · obtain ⟨a0, h0, h⟩ := Option.bind_eq_some_iff.1 h
    split at h
    · rename_i hc
      cases h
      (obtain ⟨x0, y0⟩ := a0); (obtain rfl := ptD_out h0)
      exact .inl <| okW_ends (mkS_ok (alls_cons sWdMul (alls_cons sWdAdd alls_nil))) mixed Tryz.func105 rfl (by kernel_rfl : Fits Tryz.prog E_Psquare.ref E_Psquare.dep Tryz.f105 = true) (run_Psquare _ _ hc)
    · cases h
  · cases h
attribute [simp] Psquare
end Go.Proofs.YtofklpmlgfbmlaaGreat.ZRat
namespace Go.Proofs.YtofklpmlgfbmlaaGreat.ZRat
open Go.RowKit Go.Proofs.YtofklpmlgfbmlaaGreat.Wd
open Go Go.Proofs.YtofklpmlgfbmlaaGreat.Ab Go.Proofs Go.Proofs.YtofklpmlgfbmlaaGreat.Num Go.Proofs.YtofklpmlgfbmlaaGreat.ZRatP
set_option linter.unusedSimpArgs false
set_option linter.unusedVariables false
set_option maxHeartbeats 8000000
set_option maxRecDepth 100000
noncomputable def Porient : List AV → Option AV
  | [x0, x1, x2] => (ptD x0).bind fun a0 => (ptD x1).bind fun a1 => (ptD x2).bind fun a2 => if canP a0.1 a0.2 ∧ canP a1.1 a1.2 ∧ canP a2.1 a2.2 then some (.int .i64 (crossZ a0.1 a0.2 a1.1 a1.2 a2.1 a2.2).sign) else none
  | _ => none
noncomputable def E_Porient : Env := mkS [(103, Pway), (102, Pacross), (123, WdSign)] [] []
theorem run_Porient (x0 y0 : Int) (x1 y1 : Int) (x2 y2 : Int) (hc : canP x0 y0 ∧ canP x1 y1 ∧ canP x2 y2) : AEnds E_Porient (finW Tryz.prog Tryz.f143.results) 0 [.code (Tryz.f143.body.getD .skip)] (startA Tryz.f143 [.agg [.int .i64 x0, .int .i64 y0], .agg [.int .i64 x1, .int .i64 y1], .agg [.int .i64 x2, .int .i64 y2]] [] []) (.int .i64 (crossZ x0 y0 x1 y1 x2 y2).sign) := by
  simp only [Tryz.f143, Option.getD_some, startA]
  obtain ⟨h0, h1, h2⟩ := hc
  have c0 := h0
  have c1 := h1
  unfold canP inP at c0 c1
  have d1 : -2199023255552 ≤ x1 - x0 := by omega
  have d2 : x1 - x0 ≤ 2199023255552 := by omega
  have d3 : -2199023255552 ≤ y1 - y0 := by omega
  have d4 : y1 - y0 ≤ 2199023255552 := by omega
  have c2 := h2
  unfold canP inP at c2
  have d5 : -2199023255552 ≤ x2 - x0 := by omega
  have d6 : x2 - x0 ≤ 2199023255552 := by omega
  have d7 : -2199023255552 ≤ y2 - y0 := by omega
  have d8 : y2 - y0 ≤ 2199023255552 := by omega
  have q1 := mulB (x := x1 - x0) (y := y2 - y0) (m := 2199023255552) (n := 2199023255552) ⟨d1, d2⟩ ⟨d7, d8⟩
  have q2 := mulB (x := y1 - y0) (y := x2 - x0) (m := 2199023255552) (n := 2199023255552) ⟨d3, d4⟩ ⟨d5, d6⟩
  have w1 := wideD_A ((x1 - x0) * (y2 - y0) - (y1 - y0) * (x2 - x0)) (by omega)
  unfold crossZ
  clear c0 c1 c2 q1 q2
  simp (maxSteps := 4000000) (disch := (first | with_reducible rfl | assumption | with_reducible exact WB_NB _ _ | (with_reducible refine nb_le ?_; omega) | (with_reducible refine nb16_le ?_; omega) | omega | (simp only [List.length_append, List.length_map, List.length_cons, List.length_nil, List.length_set, List.length_replicate, List.length_take, List.size_toArray]; omega))) [E_Porient, h0, h1, h2, d1, d2, d3, d4, d5, d6, d7, d8, w1, wideA]
theorem sPorient : GoodS (143, Porient) := by
  intro xs r h
  simp only at h
  unfold Porient at h
  split at h
  · obtain ⟨a0, h0, h⟩ := Option.bind_eq_some_iff.1 h
    obtain ⟨a1, h1, h⟩ := Option.bind_eq_some_iff.1 h
    obtain ⟨a2, h2, h⟩ := Option.bind_eq_some_iff.1 h
    split at h
    · rename_i hc
      cases h
      (obtain ⟨x0, y0⟩ := a0); (obtain rfl := ptD_out h0)
      (obtain ⟨x1, y1⟩ := a1); (obtain rfl := ptD_out h1)
      (obtain ⟨x2, y2⟩ := a2); (obtain rfl := ptD_out h2)
      exact .inl <| okW_ends (mkS_ok (alls_cons sPway (alls_cons sPacross (alls_cons sWdSign alls_nil)))) mixed Tryz.func143 rfl (by kernel_rfl : Fits Tryz.prog E_Porient.ref E_Porient.dep Tryz.f143 = true) (run_Porient _ _ _ _ _ _ hc)
    · cases h
  · cases h
attribute [simp] Porient
noncomputable def POrient : List AV → Option AV
  | [x0, x1, x2] => (ptD x0).bind fun a0 => (ptD x1).bind fun a1 => (ptD x2).bind fun a2 => some (.int .i64 (if canP a0.1 a0.2 ∧ canP a1.1 a1.2 ∧ canP a2.1 a2.2 then (crossZ a0.1 a0.2 a1.1 a1.2 a2.1 a2.2).sign else 0))
  | _ => none
noncomputable def E_POrient : Env := mkS [(101, PCan), (143, Porient)] [] []
theorem run_POrient (x0 y0 : Int) (x1 y1 : Int) (x2 y2 : Int) : AEnds E_POrient (finW Tryz.prog Tryz.f90.results) 0 [.code (Tryz.f90.body.getD .skip)] (startA Tryz.f90 [.agg [.int .i64 x0, .int .i64 y0], .agg [.int .i64 x1, .int .i64 y1], .agg [.int .i64 x2, .int .i64 y2]] [] []) (.int .i64 (if canP x0 y0 ∧ canP x1 y1 ∧ canP x2 y2 then (crossZ x0 y0 x1 y1 x2 y2).sign else 0)) := by
  simp only [Tryz.f90, Option.getD_some, startA]
  by_cases hc : canP x0 y0 ∧ canP x1 y1 ∧ canP x2 y2
  · rw [if_pos hc]
    simp (maxSteps := 4000000) (disch := (first | with_reducible rfl | assumption | with_reducible exact WB_NB _ _ | (with_reducible refine nb_le ?_; omega) | (with_reducible refine nb16_le ?_; omega) | omega | (simp only [List.length_append, List.length_map, List.length_cons, List.length_nil, List.length_set, List.length_replicate, List.length_take, List.size_toArray]; omega))) [E_POrient, hc]
  · rw [if_neg hc]
    simp (maxSteps := 4000000) (disch := (first | with_reducible rfl | assumption | with_reducible exact WB_NB _ _ | (with_reducible refine nb_le ?_; omega) | (with_reducible refine nb16_le ?_; omega) | omega | (simp only [List.length_append, List.length_map, List.length_cons, List.length_nil, List.length_set, List.length_replicate, List.length_take, List.size_toArray]; omega))) [E_POrient, hc]
theorem sPOrient : GoodS (90, POrient) := by
  intro xs r h
  simp only at h
  unfold POrient at h
  split at h
  · obtain ⟨a0, h0, h⟩ := Option.bind_eq_some_iff.1 h
    obtain ⟨a1, h1, h⟩ := Option.bind_eq_some_iff.1 h
    obtain ⟨a2, h2, h⟩ := Option.bind_eq_some_iff.1 h
    cases h
    (obtain ⟨x0, y0⟩ := a0); (obtain rfl := ptD_out h0)
    (obtain ⟨x1, y1⟩ := a1); (obtain rfl := ptD_out h1)
    (obtain ⟨x2, y2⟩ := a2); (obtain rfl := ptD_out h2)
    exact .inl <| okW_ends (mkS_ok (alls_cons sPCan (alls_cons sPorient alls_nil))) mixed Tryz.func90 rfl (by kernel_rfl : Fits Tryz.prog E_POrient.ref E_POrient.dep Tryz.f90 = true) (run_POrient _ _ _ _ _ _)
  · cases h
attribute [simp] POrient
noncomputable def PArea2 : List AV → Option AV
  | [x0, x1, x2] => (ptD x0).bind fun a0 => (ptD x1).bind fun a1 => (ptD x2).bind fun a2 => if canP a0.1 a0.2 ∧ canP a1.1 a1.2 ∧ canP a2.1 a2.2 then some (wideA (crossZ a0.1 a0.2 a1.1 a1.2 a2.1 a2.2)) else none
  | _ => none
noncomputable def E_PArea2 : Env := mkS [(101, PCan), (103, Pway), (102, Pacross)] [] []
theorem run_PArea2 (x0 y0 : Int) (x1 y1 : Int) (x2 y2 : Int) (hc : canP x0 y0 ∧ canP x1 y1 ∧ canP x2 y2) : AEnds E_PArea2 (finW Tryz.prog Tryz.f57.results) 0 [.code (Tryz.f57.body.getD .skip)] (startA Tryz.f57 [.agg [.int .i64 x0, .int .i64 y0], .agg [.int .i64 x1, .int .i64 y1], .agg [.int .i64 x2, .int .i64 y2]] [] []) (wideA (crossZ x0 y0 x1 y1 x2 y2)) := by
  simp only [Tryz.f57, Option.getD_some, startA]
  obtain ⟨h0, h1, h2⟩ := hc
  have c0 := h0
  have c1 := h1
  unfold canP inP at c0 c1
  have d1 : -2199023255552 ≤ x1 - x0 := by omega
  have d2 : x1 - x0 ≤ 2199023255552 := by omega
  have d3 : -2199023255552 ≤ y1 - y0 := by omega
  have d4 : y1 - y0 ≤ 2199023255552 := by omega
  have c2 := h2
  unfold canP inP at c2
  have d5 : -2199023255552 ≤ x2 - x0 := by omega
  have d6 : x2 - x0 ≤ 2199023255552 := by omega
  have d7 : -2199023255552 ≤ y2 - y0 := by omega
  have d8 : y2 - y0 ≤ 2199023255552 := by omega
  have q1 := mulB (x := x1 - x0) (y := y2 - y0) (m := 2199023255552) (n := 2199023255552) ⟨d1, d2⟩ ⟨d7, d8⟩
  have q2 := mulB (x := y1 - y0) (y := x2 - x0) (m := 2199023255552) (n := 2199023255552) ⟨d3, d4⟩ ⟨d5, d6⟩
  have w1 := wideD_A ((x1 - x0) * (y2 - y0) - (y1 - y0) * (x2 - x0)) (by omega)
  unfold crossZ
  clear c0 c1 c2 q1 q2
  simp (maxSteps := 4000000) (disch := (first | with_reducible rfl | assumption | with_reducible exact WB_NB _ _ | (with_reducible refine nb_le ?_; omega) | (with_reducible refine nb16_le ?_; omega) | omega | (simp only [List.length_append, List.length_map, List.length_cons, List.length_nil, List.length_set, List.length_replicate, List.length_take, List.size_toArray]; omega))) [E_PArea2, h0, h1, h2, d1, d2, d3, d4, d5, d6, d7, d8, w1, wideA]
theorem sPArea2 : GoodS (57, PArea2) := by
  intro xs r h
  simp only at h
  unfold PArea2 at h
  split at h
  · obtain ⟨a0, h0, h⟩ := Option.bind_eq_some_iff.1 h
    obtain ⟨a1, h1, h⟩ := Option.bind_eq_some_iff.1 h
    obtain ⟨a2, h2, h⟩ := Option.bind_eq_some_iff.1 h
    split at h
    · rename_i hc
      cases h
      (obtain ⟨x0, y0⟩ := a0); (obtain rfl := ptD_out h0)
      (obtain ⟨x1, y1⟩ := a1); (obtain rfl := ptD_out h1)
      (obtain ⟨x2, y2⟩ := a2); (obtain rfl := ptD_out h2)
      exact .inl <| okW_ends (mkS_ok (alls_cons sPCan (alls_cons sPway (alls_cons sPacross alls_nil)))) mixed Tryz.func57 rfl (by kernel_rfl : Fits Tryz.prog E_PArea2.ref E_PArea2.dep Tryz.f57 = true) (run_PArea2 _ _ _ _ _ _ hc)
    · cases h
  · cases h
attribute [simp] PArea2
noncomputable def PDist2 : List AV → Option AV
  | [x0, x1] => (ptD x0).bind fun a0 => (ptD x1).bind fun a1 => if canP a0.1 a0.2 ∧ canP a1.1 a1.2 then some (wideA (distZ a0.1 a0.2 a1.1 a1.2)) else none
  | _ => none
noncomputable def E_PDist2 : Env := mkS [(101, PCan), (103, Pway), (105, Psquare)] [] []
theorem run_PDist2 (x0 y0 : Int) (x1 y1 : Int) (hc : canP x0 y0 ∧ canP x1 y1) : AEnds E_PDist2 (finW Tryz.prog Tryz.f59.results) 0 [.code (Tryz.f59.body.getD .skip)] (startA Tryz.f59 [.agg [.int .i64 x0, .int .i64 y0], .agg [.int .i64 x1, .int .i64 y1]] [] []) (wideA (distZ x0 y0 x1 y1)) := by
  simp only [Tryz.f59, Option.getD_some, startA]
  obtain ⟨h0, h1⟩ := hc
  have c0 := h0
  have c1 := h1
  unfold canP inP at c0 c1
  have d1 : -2199023255552 ≤ x1 - x0 := by omega
  have d2 : x1 - x0 ≤ 2199023255552 := by omega
  have d3 : -2199023255552 ≤ y1 - y0 := by omega
  have d4 : y1 - y0 ≤ 2199023255552 := by omega
  unfold distZ
  clear c0 c1
  simp (maxSteps := 4000000) (disch := (first | with_reducible rfl | assumption | with_reducible exact WB_NB _ _ | (with_reducible refine nb_le ?_; omega) | (with_reducible refine nb16_le ?_; omega) | omega | (simp only [List.length_append, List.length_map, List.length_cons, List.length_nil, List.length_set, List.length_replicate, List.length_take, List.size_toArray]; omega))) [E_PDist2, h0, h1, d1, d2, d3, d4, wideA]
theorem sPDist2 : GoodS (59, PDist2) := by
  intro xs r h
  simp only at h
  unfold PDist2 at h
  split at h
  · obtain ⟨a0, h0, h⟩ := Option.bind_eq_some_iff.1 h
    obtain ⟨a1, h1, h⟩ := Option.bind_eq_some_iff.1 h
    split at h
    · rename_i hc
      cases h
      (obtain ⟨x0, y0⟩ := a0); (obtain rfl := ptD_out h0)
      (obtain ⟨x1, y1⟩ := a1); (obtain rfl := ptD_out h1)
      exact .inl <| okW_ends (mkS_ok (alls_cons sPCan (alls_cons sPway (alls_cons sPsquare alls_nil)))) mixed Tryz.func59 rfl (by kernel_rfl : Fits Tryz.prog E_PDist2.ref E_PDist2.dep Tryz.f59 = true) (run_PDist2 _ _ _ _ hc)
    · cases h
  · cases h
attribute [simp] PDist2
end Go.Proofs.YtofklpmlgfbmlaaGreat.ZRat
