/- Walks by the abstract run: the reference of circles, and its plain law. -/
import Derived.Test.YtofklpmlgfbmlaaGreatC11
import Derived.Test.YtofklpmlgfbmlaaGreatC20
import Derived.Test.YtofklpmlgfbmlaaGreatC8
import Derived.Test.YtofklpmlgfbmlaaGreatC9
set_option linter.unusedVariables false
set_option linter.unusedSimpArgs false
namespace Go.Proofs.YtofklpmlgfbmlaaGreat.ZRat
open Go.RowKit Go.Proofs.YtofklpmlgfbmlaaGreat.Wd
open Go Go.Proofs.YtofklpmlgfbmlaaGreat.Ab Go.Proofs Go.Proofs.YtofklpmlgfbmlaaGreat.Num Go.Proofs.YtofklpmlgfbmlaaGreat.ZRatP
set_option linter.unusedSimpArgs false
set_option linter.unusedVariables false
set_option maxHeartbeats 8000000
set_option maxRecDepth 100000
theorem rlit (z : Int) {L : Nat} (h : (NB 65536 z.natAbs).length ≤ L) : rintC L (.int .i64 z.sign) (.row (NB 65536 z.natAbs).length ((NB 65536 z.natAbs).map (.int .i64))) = some z := by
  have e : z.sign * (z.natAbs : Int) = z := Int.sign_mul_natAbs z
  rw [rintC_row rfl h (by rw [e]) (by rw [e]), e]
theorem rl1 : rintC 2000000 (.int .i64 (Int.sign 1099511627776)) (.row (NB 65536 1099511627776).length ((NB 65536 1099511627776).map (.int .i64))) = some 1099511627776 := rlit 1099511627776 (Nat.le_trans (NB_length_le (by omega) _ 3 (by decide)) (by omega))
theorem rl2 : rintC 2000000 (.int .i64 (Int.sign (-1099511627776))) (.row (NB 65536 1099511627776).length ((NB 65536 1099511627776).map (.int .i64))) = some (-1099511627776) := rlit (-1099511627776) (Nat.le_trans (NB_length_le (by omega) _ 3 (by decide)) (by omega))
theorem cmpZ_le0 {a b : Int} (h : a ≤ b) : cmpZ a b ≤ 0 := by unfold cmpZ; split <;> (try split) <;> omega
theorem cmpZ_nle0 {a b : Int} (h : ¬ a ≤ b) : ¬ cmpZ a b ≤ 0 := by unfold cmpZ; split <;> (try split) <;> omega
theorem cmpZ_ge0 {a b : Int} (h : b ≤ a) : 0 ≤ cmpZ a b := by unfold cmpZ; split <;> (try split) <;> omega
theorem cmpZ_nge0 {a b : Int} (h : ¬ b ≤ a) : ¬ 0 ≤ cmpZ a b := by unfold cmpZ; split <;> (try split) <;> omega
noncomputable def RIn : List AV → Option AV
  | [x0] => (rintD 1000 x0).bind fun a0 => some (.bool (decide (inP a0)))
  | _ => none
noncomputable def E_RIn : Env := mkS [(41, ZLong), (31, ZCmp)] [] []
theorem run_RIn (a0 : Int) (b0 : (NB 65536 a0.natAbs).length ≤ 1000) : AEnds E_RIn (finW Tryz.prog Tryz.f71.results) 0 [.code (Tryz.f71.body.getD .skip)] (startA Tryz.f71 [rintA a0] [] []) (.bool (decide (inP a0))) := by
  haveI := SzI.dig b0
  simp only [Tryz.f71, Option.getD_some, startA]
  unfold inP
  haveI : SzI 1099511627776 2 := ⟨by decide +kernel⟩
  haveI : SzI (-1099511627776) 2 := ⟨by decide +kernel⟩
  by_cases h1 : a0 ≤ 1099511627776
  · have q1 := cmpZ_le0 h1
    by_cases h0 : -1099511627776 ≤ a0
    · have q0 := cmpZ_ge0 h0
      simp (maxSteps := 4000000) (disch := (first | with_reducible rfl | assumption | with_reducible exact WB_NB _ _ | (with_reducible refine nb_le ?_; omega) | (with_reducible refine nb16_le ?_; omega) | omega | (simp only [List.length_append, List.length_map, List.length_cons, List.length_nil, List.length_set, List.length_replicate, List.length_take, List.size_toArray]; omega))) [E_RIn, h0, h1, q0, q1, rl1, rl2, ge_iff_le, -Int.sign_mul, -Int.sign_neg, -Int.natAbs_neg]
    · have q0 := cmpZ_nge0 h0
      simp (maxSteps := 4000000) (disch := (first | with_reducible rfl | assumption | with_reducible exact WB_NB _ _ | (with_reducible refine nb_le ?_; omega) | (with_reducible refine nb16_le ?_; omega) | omega | (simp only [List.length_append, List.length_map, List.length_cons, List.length_nil, List.length_set, List.length_replicate, List.length_take, List.size_toArray]; omega))) [E_RIn, h0, h1, q0, q1, rl1, rl2, ge_iff_le, -Int.sign_mul, -Int.sign_neg, -Int.natAbs_neg]
  · have q1 := cmpZ_nle0 h1
    simp (maxSteps := 4000000) (disch := (first | with_reducible rfl | assumption | with_reducible exact WB_NB _ _ | (with_reducible refine nb_le ?_; omega) | (with_reducible refine nb16_le ?_; omega) | omega | (simp only [List.length_append, List.length_map, List.length_cons, List.length_nil, List.length_set, List.length_replicate, List.length_take, List.size_toArray]; omega))) [E_RIn, h1, q1, rl1, rl2, ge_iff_le, -Int.sign_mul, -Int.sign_neg, -Int.natAbs_neg]
theorem sRIn : GoodS (71, RIn) := by
  intro xs r h
  simp only at h
  unfold RIn at h
  split at h
  · obtain ⟨a0, h0, h⟩ := Option.bind_eq_some_iff.1 h
    cases h
    obtain ⟨rfl, b0⟩ := rintD_out h0
    exact .inl <| okW_ends (mkS_ok (alls_cons sZLong (alls_cons sZCmp alls_nil))) mixed Tryz.func71 rfl (by kernel_rfl : Fits Tryz.prog E_RIn.ref E_RIn.dep Tryz.f71 = true) (run_RIn _ b0)
  · cases h
attribute [simp] RIn
noncomputable def RCan : List AV → Option AV
  | [x0] => (ptD x0).bind fun a0 => if (-9223372036854775808 ≤ a0.1 ∧ a0.1 < 9223372036854775808) ∧ (-9223372036854775808 ≤ a0.2 ∧ a0.2 < 9223372036854775808) then some (.bool (decide (canP a0.1 a0.2))) else none
  | _ => none
noncomputable def E_RCan : Env := mkS [(41, ZLong), (71, RIn)] [] []
theorem run_RCan (x0 y0 : Int) (hc : (-9223372036854775808 ≤ x0 ∧ x0 < 9223372036854775808) ∧ (-9223372036854775808 ≤ y0 ∧ y0 < 9223372036854775808)) : AEnds E_RCan (finW Tryz.prog Tryz.f25.results) 0 [.code (Tryz.f25.body.getD .skip)] (startA Tryz.f25 [.agg [.int .i64 x0, .int .i64 y0]] [] []) (.bool (decide (canP x0 y0))) := by
  simp only [Tryz.f25, Option.getD_some, startA]
  obtain ⟨hx0, hy0⟩ := hc
  haveI : SzI x0 2 := SzI.rng hx0
  haveI : SzI y0 2 := SzI.rng hy0
  unfold canP
  by_cases h0 : inP x0
  · by_cases h1 : inP y0
    · simp (maxSteps := 4000000) (disch := (first | with_reducible rfl | assumption | with_reducible exact WB_NB _ _ | (with_reducible refine nb_le ?_; omega) | (with_reducible refine nb16_le ?_; omega) | omega | (simp only [List.length_append, List.length_map, List.length_cons, List.length_nil, List.length_set, List.length_replicate, List.length_take, List.size_toArray]; omega))) [E_RCan, h0, h1, hx0, hy0, -Int.sign_mul, -Int.sign_neg, -Int.natAbs_neg]
    · simp (maxSteps := 4000000) (disch := (first | with_reducible rfl | assumption | with_reducible exact WB_NB _ _ | (with_reducible refine nb_le ?_; omega) | (with_reducible refine nb16_le ?_; omega) | omega | (simp only [List.length_append, List.length_map, List.length_cons, List.length_nil, List.length_set, List.length_replicate, List.length_take, List.size_toArray]; omega))) [E_RCan, h0, h1, hx0, hy0, -Int.sign_mul, -Int.sign_neg, -Int.natAbs_neg]
  · simp (maxSteps := 4000000) (disch := (first | with_reducible rfl | assumption | with_reducible exact WB_NB _ _ | (with_reducible refine nb_le ?_; omega) | (with_reducible refine nb16_le ?_; omega) | omega | (simp only [List.length_append, List.length_map, List.length_cons, List.length_nil, List.length_set, List.length_replicate, List.length_take, List.size_toArray]; omega))) [E_RCan, h0, hx0, hy0, -Int.sign_mul, -Int.sign_neg, -Int.natAbs_neg]
theorem sRCan : GoodS (25, RCan) := by
  intro xs r h
  simp only at h
  unfold RCan at h
  split at h
  · obtain ⟨a0, h0, h⟩ := Option.bind_eq_some_iff.1 h
    split at h
    · rename_i hc
      cases h
      (obtain ⟨x0, y0⟩ := a0); (obtain rfl := ptD_out h0)
      exact .inl <| okW_ends (mkS_ok (alls_cons sZLong (alls_cons sRIn alls_nil))) mixed Tryz.func25 rfl (by kernel_rfl : Fits Tryz.prog E_RCan.ref E_RCan.dep Tryz.f25 = true) (run_RCan _ _ hc)
    · cases h
  · cases h
attribute [simp] RCan
noncomputable def Rdiff : List AV → Option AV
  | [x0, x1] => (unN .i64 x0).bind fun a0 => (unN .i64 x1).bind fun a1 => if (-9223372036854775808 ≤ a0 ∧ a0 < 9223372036854775808) ∧ (-9223372036854775808 ≤ a1 ∧ a1 < 9223372036854775808) then some (rintA (a1 - a0)) else none
  | _ => none
noncomputable def E_Rdiff : Env := mkS [(41, ZLong), (74, ZSub)] [] []
theorem run_Rdiff (a0 : Int) (a1 : Int) (hc : (-9223372036854775808 ≤ a0 ∧ a0 < 9223372036854775808) ∧ (-9223372036854775808 ≤ a1 ∧ a1 < 9223372036854775808)) : AEnds E_Rdiff (finW Tryz.prog Tryz.f108.results) 0 [.code (Tryz.f108.body.getD .skip)] (startA Tryz.f108 [.int .i64 a0, .int .i64 a1] [] []) (rintA (a1 - a0)) := by
  simp only [Tryz.f108, Option.getD_some, startA]
  obtain ⟨h0, h1⟩ := hc
  haveI : SzI a0 2 := SzI.rng h0
  haveI : SzI a1 2 := SzI.rng h1
  simp (maxSteps := 4000000) (disch := (first | with_reducible rfl | assumption | with_reducible exact WB_NB _ _ | (with_reducible refine nb_le ?_; omega) | (with_reducible refine nb16_le ?_; omega) | omega | (simp only [List.length_append, List.length_map, List.length_cons, List.length_nil, List.length_set, List.length_replicate, List.length_take, List.size_toArray]; omega))) [E_Rdiff, h0, h1, -Int.sign_mul, -Int.sign_neg, -Int.natAbs_neg]
theorem sRdiff : GoodS (108, Rdiff) := by
  intro xs r h
  simp only at h
  unfold Rdiff at h
  split at h
  · obtain ⟨a0, h0, h⟩ := Option.bind_eq_some_iff.1 h
    obtain ⟨a1, h1, h⟩ := Option.bind_eq_some_iff.1 h
    split at h
    · rename_i hc
      cases h
      obtain rfl := unN_eq h0
      obtain rfl := unN_eq h1
      exact .inl <| okW_ends (mkS_ok (alls_cons sZLong (alls_cons sZSub alls_nil))) mixed Tryz.func108 rfl (by kernel_rfl : Fits Tryz.prog E_Rdiff.ref E_Rdiff.dep Tryz.f108 = true) (run_Rdiff _ _ hc)
    · cases h
  · cases h
attribute [simp] Rdiff
noncomputable def Rdist : List AV → Option AV
  | [x0, x1] => (ptD x0).bind fun a0 => (ptD x1).bind fun a1 => if (-9223372036854775808 ≤ a0.1 ∧ a0.1 < 9223372036854775808) ∧ (-9223372036854775808 ≤ a0.2 ∧ a0.2 < 9223372036854775808) ∧ (-9223372036854775808 ≤ a1.1 ∧ a1.1 < 9223372036854775808) ∧ (-9223372036854775808 ≤ a1.2 ∧ a1.2 < 9223372036854775808) then some (rintA (distZ a0.1 a0.2 a1.1 a1.2)) else none
  | _ => none
noncomputable def E_Rdist : Env := mkS [(108, Rdiff), (35, ZMul), (72, ZAdd)] [] [(1, [([], [], false), ([], [], false), ([], [], false), ([], [], false), ([], [], false), ([], [], false), ([], [], false), ([], [], false), ([], [], false), ([], [], false), ([], [], false), ([], [], false), ([0, 1], [], false), ([0, 1], [], false)])]
theorem run_Rdist (x0 y0 : Int) (x1 y1 : Int) (hc : (-9223372036854775808 ≤ x0 ∧ x0 < 9223372036854775808) ∧ (-9223372036854775808 ≤ y0 ∧ y0 < 9223372036854775808) ∧ (-9223372036854775808 ≤ x1 ∧ x1 < 9223372036854775808) ∧ (-9223372036854775808 ≤ y1 ∧ y1 < 9223372036854775808)) : AEnds E_Rdist (finW Tryz.prog Tryz.f61.results) 0 [.code (Tryz.f61.body.getD .skip)] (startA Tryz.f61 [.agg [.int .i64 x0, .int .i64 y0], .agg [.int .i64 x1, .int .i64 y1]] [] []) (rintA (distZ x0 y0 x1 y1)) := by
  simp only [Tryz.f61, Option.getD_some, startA]
  obtain ⟨hx0, hy0, hx1, hy1⟩ := hc
  haveI : SzI x0 2 := SzI.rng hx0
  haveI : SzI y0 2 := SzI.rng hy0
  haveI : SzI x1 2 := SzI.rng hx1
  haveI : SzI y1 2 := SzI.rng hy1
  unfold distZ
  simp (maxSteps := 4000000) (disch := (first | with_reducible rfl | assumption | with_reducible exact WB_NB _ _ | (with_reducible refine nb_le ?_; omega) | (with_reducible refine nb16_le ?_; omega) | omega | (simp only [List.length_append, List.length_map, List.length_cons, List.length_nil, List.length_set, List.length_replicate, List.length_take, List.size_toArray]; omega))) [E_Rdist, hx0, hy0, hx1, hy1, -Int.sign_mul, -Int.sign_neg, -Int.natAbs_neg]
theorem sRdist : GoodS (61, Rdist) := by
  intro xs r h
  simp only at h
  unfold Rdist at h
  split at h
  · obtain ⟨a0, h0, h⟩ := Option.bind_eq_some_iff.1 h
    obtain ⟨a1, h1, h⟩ := Option.bind_eq_some_iff.1 h
    split at h
    · rename_i hc
      cases h
      (obtain ⟨x0, y0⟩ := a0); (obtain rfl := ptD_out h0)
      (obtain ⟨x1, y1⟩ := a1); (obtain rfl := ptD_out h1)
      exact .inl <| okW_ends (mkS_ok (alls_cons sRdiff (alls_cons sZMul (alls_cons sZAdd alls_nil)))) mixed Tryz.func61 rfl (by kernel_rfl : Fits Tryz.prog E_Rdist.ref E_Rdist.dep Tryz.f61 = true) (run_Rdist _ _ _ _ hc)
    · cases h
  · cases h
attribute [simp] Rdist
noncomputable def RArea : List AV → Option AV
  | [x0, x1, x2] => (ptD x0).bind fun a0 => (ptD x1).bind fun a1 => (ptD x2).bind fun a2 => if (-9223372036854775808 ≤ a0.1 ∧ a0.1 < 9223372036854775808) ∧ (-9223372036854775808 ≤ a0.2 ∧ a0.2 < 9223372036854775808) ∧ (-9223372036854775808 ≤ a1.1 ∧ a1.1 < 9223372036854775808) ∧ (-9223372036854775808 ≤ a1.2 ∧ a1.2 < 9223372036854775808) ∧ (-9223372036854775808 ≤ a2.1 ∧ a2.1 < 9223372036854775808) ∧ (-9223372036854775808 ≤ a2.2 ∧ a2.2 < 9223372036854775808) then some (rintA (crossZ a0.1 a0.2 a1.1 a1.2 a2.1 a2.2)) else none
  | _ => none
noncomputable def E_RArea : Env := mkS [(108, Rdiff), (35, ZMul), (74, ZSub)] [] []
theorem run_RArea (x0 y0 : Int) (x1 y1 : Int) (x2 y2 : Int) (hc : (-9223372036854775808 ≤ x0 ∧ x0 < 9223372036854775808) ∧ (-9223372036854775808 ≤ y0 ∧ y0 < 9223372036854775808) ∧ (-9223372036854775808 ≤ x1 ∧ x1 < 9223372036854775808) ∧ (-9223372036854775808 ≤ y1 ∧ y1 < 9223372036854775808) ∧ (-9223372036854775808 ≤ x2 ∧ x2 < 9223372036854775808) ∧ (-9223372036854775808 ≤ y2 ∧ y2 < 9223372036854775808)) : AEnds E_RArea (finW Tryz.prog Tryz.f80.results) 0 [.code (Tryz.f80.body.getD .skip)] (startA Tryz.f80 [.agg [.int .i64 x0, .int .i64 y0], .agg [.int .i64 x1, .int .i64 y1], .agg [.int .i64 x2, .int .i64 y2]] [] []) (rintA (crossZ x0 y0 x1 y1 x2 y2)) := by
  simp only [Tryz.f80, Option.getD_some, startA]
  obtain ⟨hx0, hy0, hx1, hy1, hx2, hy2⟩ := hc
  haveI : SzI x0 2 := SzI.rng hx0
  haveI : SzI y0 2 := SzI.rng hy0
  haveI : SzI x1 2 := SzI.rng hx1
  haveI : SzI y1 2 := SzI.rng hy1
  haveI : SzI x2 2 := SzI.rng hx2
  haveI : SzI y2 2 := SzI.rng hy2
  unfold crossZ
  simp (maxSteps := 4000000) (disch := (first | with_reducible rfl | assumption | with_reducible exact WB_NB _ _ | (with_reducible refine nb_le ?_; omega) | (with_reducible refine nb16_le ?_; omega) | omega | (simp only [List.length_append, List.length_map, List.length_cons, List.length_nil, List.length_set, List.length_replicate, List.length_take, List.size_toArray]; omega))) [E_RArea, hx0, hy0, hx1, hy1, hx2, hy2, -Int.sign_mul, -Int.sign_neg, -Int.natAbs_neg]
theorem sRArea : GoodS (80, RArea) := by
  intro xs r h
  simp only at h
  unfold RArea at h
  split at h
  · obtain ⟨a0, h0, h⟩ := Option.bind_eq_some_iff.1 h
    obtain ⟨a1, h1, h⟩ := Option.bind_eq_some_iff.1 h
    obtain ⟨a2, h2, h⟩ := Option.bind_eq_some_iff.1 h
    split at h
    · rename_i hc
      cases h
      (obtain ⟨x0, y0⟩ := a0); (obtain rfl := ptD_out h0)
      (obtain ⟨x1, y1⟩ := a1); (obtain rfl := ptD_out h1)
      (obtain ⟨x2, y2⟩ := a2); (obtain rfl := ptD_out h2)
      exact .inl <| okW_ends (mkS_ok (alls_cons sRdiff (alls_cons sZMul (alls_cons sZSub alls_nil)))) mixed Tryz.func80 rfl (by kernel_rfl : Fits Tryz.prog E_RArea.ref E_RArea.dep Tryz.f80 = true) (run_RArea _ _ _ _ _ _ hc)
    · cases h
  · cases h
attribute [simp] RArea
noncomputable def Rsign : List AV → Option AV
  | [x0] => (unN .i64 x0).bind fun a0 => some (.int .i64 a0.sign)
  | _ => none
noncomputable def E_Rsign : Env := mkS [] [] []
theorem run_Rsign (a0 : Int) : AEnds E_Rsign (finW Tryz.prog Tryz.f99.results) 0 [.code (Tryz.f99.body.getD .skip)] (startA Tryz.f99 [.int .i64 a0] [] []) (.int .i64 a0.sign) := by
  simp only [Tryz.f99, Option.getD_some, startA]
  by_cases h : a0 < 0
  · rw [Int.sign_eq_neg_one_of_neg h]
    simp (maxSteps := 4000000) (disch := (first | with_reducible rfl | assumption | with_reducible exact WB_NB _ _ | (with_reducible refine nb_le ?_; omega) | (with_reducible refine nb16_le ?_; omega) | omega | (simp only [List.length_append, List.length_map, List.length_cons, List.length_nil, List.length_set, List.length_replicate, List.length_take, List.size_toArray]; omega))) [E_Rsign, h]
  · by_cases h2 : 0 < a0
    · rw [Int.sign_eq_one_of_pos h2]
      simp (maxSteps := 4000000) (disch := (first | with_reducible rfl | assumption | with_reducible exact WB_NB _ _ | (with_reducible refine nb_le ?_; omega) | (with_reducible refine nb16_le ?_; omega) | omega | (simp only [List.length_append, List.length_map, List.length_cons, List.length_nil, List.length_set, List.length_replicate, List.length_take, List.size_toArray]; omega))) [E_Rsign, h, h2]
    · have : a0 = 0 := by omega
      subst this
      simp (maxSteps := 4000000) (disch := (first | with_reducible rfl | assumption | with_reducible exact WB_NB _ _ | (with_reducible refine nb_le ?_; omega) | (with_reducible refine nb16_le ?_; omega) | omega | (simp only [List.length_append, List.length_map, List.length_cons, List.length_nil, List.length_set, List.length_replicate, List.length_take, List.size_toArray]; omega))) [E_Rsign]
theorem sRsign : GoodS (99, Rsign) := by
  intro xs r h
  simp only at h
  unfold Rsign at h
  split at h
  · obtain ⟨a0, h0, h⟩ := Option.bind_eq_some_iff.1 h
    cases h
    obtain rfl := unN_eq h0
    exact .inl <| okW_ends (mkS_ok alls_nil) mixed Tryz.func99 rfl (by kernel_rfl : Fits Tryz.prog E_Rsign.ref E_Rsign.dep Tryz.f99 = true) (run_Rsign _)
  · cases h
attribute [simp] Rsign
end Go.Proofs.YtofklpmlgfbmlaaGreat.ZRat
namespace Go.Proofs.YtofklpmlgfbmlaaGreat.ZRat
open Go.RowKit Go.Proofs.YtofklpmlgfbmlaaGreat.Wd
open Go Go.Proofs.YtofklpmlgfbmlaaGreat.Ab Go.Proofs Go.Proofs.YtofklpmlgfbmlaaGreat.Num Go.Proofs.YtofklpmlgfbmlaaGreat.ZRatP
set_option linter.unusedSimpArgs false
set_option linter.unusedVariables false
set_option maxHeartbeats 8000000
set_option maxRecDepth 100000
def nearP (ax ay bx bY : Int) : Prop := (-8192 < bx - ax ∧ bx - ax < 8192) ∧ (-8192 < bY - ay ∧ bY - ay < 8192)
instance {a b c d : Int} : Decidable (nearP a b c d) := by unfold nearP; infer_instance
theorem can_rng {x y : Int} (h : canP x y) : (-9223372036854775808 ≤ x ∧ x < 9223372036854775808) ∧ (-9223372036854775808 ≤ y ∧ y < 9223372036854775808) := by
  unfold canP inP at h; omega
theorem near_wr {ax ay bx bY cx cy : Int} (h : nearP ax ay bx bY) (k : nearP ax ay cx cy) : Aside0 (wrap64 ((bx - ax) * (cy - ay)) = (bx - ax) * (cy - ay) ∧ wrap64 ((bY - ay) * (cx - ax)) = (bY - ay) * (cx - ax) ∧ wrap64 ((bx - ax) * (cy - ay) - (bY - ay) * (cx - ax)) = crossZ ax ay bx bY cx cy) := by
  unfold nearP at h k
  unfold crossZ
  generalize bx - ax = u at *
  generalize bY - ay = v at *
  generalize cx - ax = p at *
  generalize cy - ay = q at *
  have q1 := mulB (x := u) (y := q) (m := 8192) (n := 8192) (by omega) (by omega)
  have q2 := mulB (x := v) (y := p) (m := 8192) (n := 8192) (by omega) (by omega)
  generalize u * q = s at *
  generalize v * p = t at *
  exact ⟨w64in _ (by omega) (by omega), w64in _ (by omega) (by omega), w64in _ (by omega) (by omega)⟩
theorem diff_wr {ax ay bx bY : Int} (h : canP ax ay) (k : canP bx bY) : Aside0 (wrap64 (bx - ax) = bx - ax ∧ wrap64 (bY - ay) = bY - ay) := by
  unfold canP inP at h k
  exact ⟨w64in _ (by omega) (by omega), w64in _ (by omega) (by omega)⟩
noncomputable def Rnear : List AV → Option AV
  | [x0, x1] => (ptD x0).bind fun a0 => (ptD x1).bind fun a1 => if canP a0.1 a0.2 ∧ canP a1.1 a1.2 then some (.bool (decide (nearP a0.1 a0.2 a1.1 a1.2))) else none
  | _ => none
noncomputable def E_Rnear : Env := mkS [] [] []
theorem run_Rnear (x0 y0 : Int) (x1 y1 : Int) (hc : canP x0 y0 ∧ canP x1 y1) : AEnds E_Rnear (finW Tryz.prog Tryz.f98.results) 0 [.code (Tryz.f98.body.getD .skip)] (startA Tryz.f98 [.agg [.int .i64 x0, .int .i64 y0], .agg [.int .i64 x1, .int .i64 y1]] [] []) (.bool (decide (nearP x0 y0 x1 y1))) := by
  simp only [Tryz.f98, Option.getD_some, startA]
  obtain ⟨h0, h1⟩ := hc
  have F := diff_wr h0 h1
  clear h0 h1
  unfold nearP
  by_cases g1 : -8192 < x1 - x0
  · by_cases g2 : x1 - x0 < 8192
    · by_cases g3 : -8192 < y1 - y0
      · by_cases g4 : y1 - y0 < 8192
        · simp (maxSteps := 4000000) (disch := (first | with_reducible rfl | assumption | with_reducible exact WB_NB _ _ | (with_reducible refine nb_le ?_; omega) | (with_reducible refine nb16_le ?_; omega) | omega | (simp only [List.length_append, List.length_map, List.length_cons, List.length_nil, List.length_set, List.length_replicate, List.length_take, List.size_toArray]; omega))) [E_Rnear, F.out, g1, g2, g3, g4, gt_iff_lt]
        · simp (maxSteps := 4000000) (disch := (first | with_reducible rfl | assumption | with_reducible exact WB_NB _ _ | (with_reducible refine nb_le ?_; omega) | (with_reducible refine nb16_le ?_; omega) | omega | (simp only [List.length_append, List.length_map, List.length_cons, List.length_nil, List.length_set, List.length_replicate, List.length_take, List.size_toArray]; omega))) [E_Rnear, F.out, g1, g2, g3, g4, gt_iff_lt]
      · simp (maxSteps := 4000000) (disch := (first | with_reducible rfl | assumption | with_reducible exact WB_NB _ _ | (with_reducible refine nb_le ?_; omega) | (with_reducible refine nb16_le ?_; omega) | omega | (simp only [List.length_append, List.length_map, List.length_cons, List.length_nil, List.length_set, List.length_replicate, List.length_take, List.size_toArray]; omega))) [E_Rnear, F.out, g1, g2, g3, gt_iff_lt]
    · simp (maxSteps := 4000000) (disch := (first | with_reducible rfl | assumption | with_reducible exact WB_NB _ _ | (with_reducible refine nb_le ?_; omega) | (with_reducible refine nb16_le ?_; omega) | omega | (simp only [List.length_append, List.length_map, List.length_cons, List.length_nil, List.length_set, List.length_replicate, List.length_take, List.size_toArray]; omega))) [E_Rnear, F.out, g1, g2, gt_iff_lt]
  · simp (maxSteps := 4000000) (disch := (first | with_reducible rfl | assumption | with_reducible exact WB_NB _ _ | (with_reducible refine nb_le ?_; omega) | (with_reducible refine nb16_le ?_; omega) | omega | (simp only [List.length_append, List.length_map, List.length_cons, List.length_nil, List.length_set, List.length_replicate, List.length_take, List.size_toArray]; omega))) [E_Rnear, F.out, g1, gt_iff_lt]
theorem sRnear : GoodS (98, Rnear) := by
  intro xs r h
  simp only at h
  unfold Rnear at h
  split at h
  · obtain ⟨a0, h0, h⟩ := Option.bind_eq_some_iff.1 h
    obtain ⟨a1, h1, h⟩ := Option.bind_eq_some_iff.1 h
    split at h
    · rename_i hc
      cases h
      (obtain ⟨x0, y0⟩ := a0); (obtain rfl := ptD_out h0)
      (obtain ⟨x1, y1⟩ := a1); (obtain rfl := ptD_out h1)
      exact .inl <| okW_ends (mkS_ok alls_nil) mixed Tryz.func98 rfl (by kernel_rfl : Fits Tryz.prog E_Rnear.ref E_Rnear.dep Tryz.f98 = true) (run_Rnear _ _ _ _ hc)
    · cases h
  · cases h
attribute [simp] Rnear
noncomputable def ROrient : List AV → Option AV
  | [x0, x1, x2] => (ptD x0).bind fun a0 => (ptD x1).bind fun a1 => (ptD x2).bind fun a2 => if canP a0.1 a0.2 ∧ canP a1.1 a1.2 ∧ canP a2.1 a2.2 then some (.int .i64 (crossZ a0.1 a0.2 a1.1 a1.2 a2.1 a2.2).sign) else none
  | _ => none
noncomputable def E_ROrient : Env := mkS [(98, Rnear), (99, Rsign), (80, RArea)] [] []
theorem run_ROrient (x0 y0 : Int) (x1 y1 : Int) (x2 y2 : Int) (hc : canP x0 y0 ∧ canP x1 y1 ∧ canP x2 y2) : AEnds E_ROrient (finW Tryz.prog Tryz.f54.results) 0 [.code (Tryz.f54.body.getD .skip)] (startA Tryz.f54 [.agg [.int .i64 x0, .int .i64 y0], .agg [.int .i64 x1, .int .i64 y1], .agg [.int .i64 x2, .int .i64 y2]] [] []) (.int .i64 (crossZ x0 y0 x1 y1 x2 y2).sign) := by
  simp only [Tryz.f54, Option.getD_some, startA]
  obtain ⟨h0, h1, h2⟩ := hc
  obtain ⟨hx0, hy0⟩ := can_rng h0
  obtain ⟨hx1, hy1⟩ := can_rng h1
  obtain ⟨hx2, hy2⟩ := can_rng h2
  have F1 := diff_wr h0 h1
  have F2 := diff_wr h0 h2
  by_cases n1 : nearP x0 y0 x1 y1
  · by_cases n2 : nearP x0 y0 x2 y2
    · have F := near_wr n1 n2
      simp (maxSteps := 4000000) (disch := (first | with_reducible rfl | assumption | with_reducible exact WB_NB _ _ | (with_reducible refine nb_le ?_; omega) | (with_reducible refine nb16_le ?_; omega) | omega | (simp only [List.length_append, List.length_map, List.length_cons, List.length_nil, List.length_set, List.length_replicate, List.length_take, List.size_toArray]; omega))) [E_ROrient, h0, h1, h2, n1, n2, F1.out, F2.out, F.out]
    · simp (maxSteps := 4000000) (disch := (first | with_reducible rfl | assumption | with_reducible exact WB_NB _ _ | (with_reducible refine nb_le ?_; omega) | (with_reducible refine nb16_le ?_; omega) | omega | (simp only [List.length_append, List.length_map, List.length_cons, List.length_nil, List.length_set, List.length_replicate, List.length_take, List.size_toArray]; omega))) [E_ROrient, h0, h1, h2, n1, n2, hx0, hy0, hx1, hy1, hx2, hy2, -Int.sign_mul, -Int.sign_neg, -Int.natAbs_neg]
  · simp (maxSteps := 4000000) (disch := (first | with_reducible rfl | assumption | with_reducible exact WB_NB _ _ | (with_reducible refine nb_le ?_; omega) | (with_reducible refine nb16_le ?_; omega) | omega | (simp only [List.length_append, List.length_map, List.length_cons, List.length_nil, List.length_set, List.length_replicate, List.length_take, List.size_toArray]; omega))) [E_ROrient, h0, h1, h2, n1, hx0, hy0, hx1, hy1, hx2, hy2, -Int.sign_mul, -Int.sign_neg, -Int.natAbs_neg]
theorem sROrient : GoodS (54, ROrient) := by
  intro xs r h
  simp only at h
  unfold ROrient at h
  split at h
  · obtain ⟨a0, h0, h⟩ := Option.bind_eq_some_iff.1 h
    obtain ⟨a1, h1, h⟩ := Option.bind_eq_some_iff.1 h
    obtain ⟨a2, h2, h⟩ := Option.bind_eq_some_iff.1 h
    split at h
    · rename_i hc
      cases h
      (obtain ⟨x0, y0⟩ := a0); (obtain rfl := ptD_out h0)
      (obtain ⟨x1, y1⟩ := a1); (obtain rfl := ptD_out h1)
      (obtain ⟨x2, y2⟩ := a2); (obtain rfl := ptD_out h2)
      exact .inl <| okW_ends (mkS_ok (alls_cons sRnear (alls_cons sRsign (alls_cons sRArea alls_nil)))) mixed Tryz.func54 rfl (by kernel_rfl : Fits Tryz.prog E_ROrient.ref E_ROrient.dep Tryz.f54 = true) (run_ROrient _ _ _ _ _ _ hc)
    · cases h
  · cases h
attribute [simp] ROrient
end Go.Proofs.YtofklpmlgfbmlaaGreat.ZRat
namespace Go.Proofs.YtofklpmlgfbmlaaGreat.ZRat
open Go.RowKit Go.Proofs.YtofklpmlgfbmlaaGreat.Wd
open Go Go.Proofs.YtofklpmlgfbmlaaGreat.Ab Go.Proofs Go.Proofs.YtofklpmlgfbmlaaGreat.Num Go.Proofs.YtofklpmlgfbmlaaGreat.ZRatP
set_option linter.unusedSimpArgs false
set_option linter.unusedVariables false
set_option maxHeartbeats 8000000
set_option maxRecDepth 100000
section
variable (ax ay bx bY cx cy : Int)
theorem castne' {d : Int} (h : d ≠ 0) : (d : Rat) ≠ 0 := by rw [Ne, Rat.intCast_eq_zero_iff]; exact h
variable (u v : Int)
end
theorem cpos {c : Int} (h : c ≠ 0) : 0 < 4 * (c * c) := by
  have : 0 < c * c := by
    rcases Int.lt_or_gt_of_ne h with h | h
    · exact Int.mul_pos_of_neg_of_neg h h
    · exact Int.mul_pos h h
  omega
end Go.Proofs.YtofklpmlgfbmlaaGreat.ZRat
namespace Go.Proofs.YtofklpmlgfbmlaaGreat.ZRat
open Go.RowKit Go.Proofs.YtofklpmlgfbmlaaGreat.Wd
open Go Go.Proofs.YtofklpmlgfbmlaaGreat.Ab Go.Proofs Go.Proofs.YtofklpmlgfbmlaaGreat.Num Go.Proofs.YtofklpmlgfbmlaaGreat.ZRatP
set_option linter.unusedSimpArgs false
set_option linter.unusedVariables false
set_option maxHeartbeats 8000000
set_option maxRecDepth 100000
theorem natAbsQ' {d : Int} (h : 0 < d) : ((d.natAbs : Nat) : Rat) = (d : Rat) := by rw [← Rat.intCast_natCast, Int.natAbs_of_nonneg (by omega)]
end Go.Proofs.YtofklpmlgfbmlaaGreat.ZRat
namespace Go.Proofs.YtofklpmlgfbmlaaGreat.ZRat
open Go.RowKit Go.Proofs.YtofklpmlgfbmlaaGreat.Wd
open Go Go.Proofs.YtofklpmlgfbmlaaGreat.Ab Go.Proofs Go.Proofs.YtofklpmlgfbmlaaGreat.Num Go.Proofs.YtofklpmlgfbmlaaGreat.ZRatP
set_option linter.unusedSimpArgs false
set_option linter.unusedVariables false
set_option maxHeartbeats 8000000
set_option maxRecDepth 100000
section
variable {ax ay bx bY cx cy : Int}
theorem szDist [SzI ax 2] [SzI ay 2] [SzI bx 2] [SzI bY 2] : SzI (distZ ax ay bx bY) 21 := (inferInstance : SzI ((bx - ax) * (bx - ax) + (bY - ay) * (bY - ay)) _)
end
theorem rden (n : Nat) {L : Nat} (h : (NB 65536 n).length ≤ L) : rintC L (.int .i64 ((n : Int).sign)) (.row (NB 65536 n).length ((NB 65536 n).map (.int .i64))) = some (n : Int) := rlit (n : Int) h
end Go.Proofs.YtofklpmlgfbmlaaGreat.ZRat
