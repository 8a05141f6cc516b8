/- Fractions; opening of arguments. -/
import Derived.Test.YtofklpmlgfbmlaaGreatC6
import Derived.Test.YtofklpmlgfbmlaaGreatC8
import Derived.ChangeOld
import Derived.Below
set_option linter.unusedVariables false
set_option linter.unusedSimpArgs false
namespace Go.Proofs.YtofklpmlgfbmlaaGreat.ZRat
open Go.RowKit Go.Proofs.YtofklpmlgfbmlaaGreat.Wd
open Go Go.Proofs.YtofklpmlgfbmlaaGreat.Ab Go.Proofs Go.Proofs.YtofklpmlgfbmlaaGreat.Num Go.Proofs.YtofklpmlgfbmlaaGreat.ZRatP
set_option linter.unusedSimpArgs false
set_option linter.unusedVariables false
set_option maxHeartbeats 8000000
set_option maxRecDepth 100000
noncomputable def Rlowest : List AV → Option AV
  | [x0, x1] => (intD 100000 x0).bind fun a0 => (natD 100000 x1).bind fun a1 => some (ratA (mkRat a0 a1))
  | _ => none
noncomputable def E_Rlowest : Env := mkS [(156, WNorm), (144, NTrim), (157, NGcd), (158, NDivMod)] [] []
theorem run_Rlowest (s0 : Bool) (l0 : List Int) (w0 : WB 4294967296 l0) (b0 : l0.length ≤ 100000) (l1 : List Int) (w1 : WB 4294967296 l1) (b1 : l1.length ≤ 100000) : AEnds E_Rlowest (finW Tryz.prog Tryz.f114.results) 0 [.code (Tryz.f114.body.getD .skip)] (startA Tryz.f114 [.agg [.bool s0, rowI .u32 l0], rowI .u32 l1] [] []) (ratA (mkRat (IVal s0 l0) (VB 4294967296 l1))) := by
  haveI := SzI.val (neg := s0) w0 b0
  haveI := SzN.val w1 b1
  simp only [Tryz.f114, Option.getD_some, startA]
  by_cases hd : VB 4294967296 l1 = 0
  · rw [hd, Rat.mkRat_zero, ratA_zero]
    simp (maxSteps := 4000000) (disch := (first | with_reducible rfl | assumption | with_reducible exact WB_NB _ _ | (with_reducible refine nb_le ?_; omega) | (with_reducible refine nb16_le ?_; omega) | omega | (simp only [List.length_append, List.length_map, List.length_cons, List.length_nil, List.length_set, List.length_replicate, List.length_take, List.size_toArray]; omega))) [E_Rlowest, hd]
  · by_cases h0 : IVal s0 l0 = 0
    · rw [h0, Rat.zero_mkRat, ratA_zero]
      simp (maxSteps := 4000000) (disch := (first | with_reducible rfl | assumption | with_reducible exact WB_NB _ _ | (with_reducible refine nb_le ?_; omega) | (with_reducible refine nb16_le ?_; omega) | omega | (simp only [List.length_append, List.length_map, List.length_cons, List.length_nil, List.length_set, List.length_replicate, List.length_take, List.size_toArray]; omega))) [E_Rlowest, hd, h0]
    · rw [ratA_mk _ _ hd]
      simp (maxSteps := 4000000) (disch := (first | with_reducible rfl | assumption | with_reducible exact WB_NB _ _ | (with_reducible refine nb_le ?_; omega) | (with_reducible refine nb16_le ?_; omega) | omega | (simp only [List.length_append, List.length_map, List.length_cons, List.length_nil, List.length_set, List.length_replicate, List.length_take, List.size_toArray]; omega))) [E_Rlowest, hd, h0]
theorem sRlowest : GoodS (114, Rlowest) := by
  intro xs r h
  simp only at h
  unfold Rlowest at h
  split at h
  · obtain ⟨a0, h0, h⟩ := Option.bind_eq_some_iff.1 h
    obtain ⟨a1, h1, h⟩ := Option.bind_eq_some_iff.1 h
    cases h
    obtain ⟨s0, l0, rfl, w0, b0, rfl⟩ := intD_out h0
    obtain ⟨l1, rfl, -, w1, b1, rfl⟩ := natD_out h1
    exact .inl <| okW_ends (mkS_ok (alls_cons sWNorm (alls_cons sNTrim (alls_cons sNGcd (alls_cons sNDivMod alls_nil))))) mixed Tryz.func114 rfl (by kernel_rfl : Fits Tryz.prog E_Rlowest.ref E_Rlowest.dep Tryz.f114 = true) (run_Rlowest _ _ w0 b0 _ w1 b1)
  · cases h
attribute [simp] Rlowest
noncomputable def Rnorm : List AV → Option AV
  | [x0] => (ratP 100000 x0).bind fun a0 => some (ratA (mkRat a0.1 a0.2))
  | _ => none
noncomputable def E_Rnorm : Env := mkS [(114, Rlowest)] [] []
theorem run_Rnorm (s0 : Bool) (l0 m0 : List Int) (w0 : WB 4294967296 l0) (b0 : l0.length ≤ 100000) (v0 : WB 4294967296 m0) (c0 : m0.length ≤ 100000) : AEnds E_Rnorm (finW Tryz.prog Tryz.f112.results) 0 [.code (Tryz.f112.body.getD .skip)] (startA Tryz.f112 [.agg [.bool s0, rowI .u32 l0, rowI .u32 m0]] [] []) (ratA (mkRat (IVal s0 l0) (VB 4294967296 m0))) := by
  haveI := SzI.val (neg := s0) w0 b0
  haveI := SzN.val v0 c0
  simp only [Tryz.f112, Option.getD_some, startA]
  simp (maxSteps := 4000000) (disch := (first | with_reducible rfl | assumption | with_reducible exact WB_NB _ _ | (with_reducible refine nb_le ?_; omega) | (with_reducible refine nb16_le ?_; omega) | omega | (simp only [List.length_append, List.length_map, List.length_cons, List.length_nil, List.length_set, List.length_replicate, List.length_take, List.size_toArray]; omega))) [E_Rnorm]
theorem sRnorm : GoodS (112, Rnorm) := by
  intro xs r h
  simp only at h
  unfold Rnorm at h
  split at h
  · obtain ⟨a0, h0, h⟩ := Option.bind_eq_some_iff.1 h
    cases h
    obtain ⟨s0, l0, m0, rfl, w0, b0, v0, c0, rfl⟩ := ratP_out h0
    exact .inl <| okW_ends (mkS_ok (alls_cons sRlowest alls_nil)) mixed Tryz.func112 rfl (by kernel_rfl : Fits Tryz.prog E_Rnorm.ref E_Rnorm.dep Tryz.f112 = true) (run_Rnorm _ _ _ w0 b0 v0 c0)
  · cases h
attribute [simp] Rnorm
noncomputable def Rplain : List AV → Option AV
  | [x0] => (unI .u32 x0).bind fun a0 => some (.agg [.bool false, rowI .u32 a0])
  | _ => none
noncomputable def E_Rplain : Env := mkS [] [] []
theorem run_Rplain (l0 : List Int) : AEnds E_Rplain (finW Tryz.prog Tryz.f165.results) 0 [.code (Tryz.f165.body.getD .skip)] (startA Tryz.f165 [rowI .u32 l0] [] []) (.agg [.bool false, rowI .u32 l0]) := by
  simp only [Tryz.f165, Option.getD_some, startA]
  simp (maxSteps := 4000000) (disch := (first | with_reducible rfl | assumption | with_reducible exact WB_NB _ _ | (with_reducible refine nb_le ?_; omega) | (with_reducible refine nb16_le ?_; omega) | omega | (simp only [List.length_append, List.length_map, List.length_cons, List.length_nil, List.length_set, List.length_replicate, List.length_take, List.size_toArray]; omega))) [E_Rplain]
theorem sRplain : GoodS (165, Rplain) := by
  intro xs r h
  simp only at h
  unfold Rplain at h
  split at h
  · obtain ⟨a0, h0, h⟩ := Option.bind_eq_some_iff.1 h
    cases h
    obtain rfl := unI_eq h0
    exact .inl <| okW_ends (mkS_ok alls_nil) mixed Tryz.func165 rfl (by kernel_rfl : Fits Tryz.prog E_Rplain.ref E_Rplain.dep Tryz.f165 = true) (run_Rplain _)
  · cases h
attribute [simp] Rplain
end Go.Proofs.YtofklpmlgfbmlaaGreat.ZRat
namespace Go.Proofs.YtofklpmlgfbmlaaGreat.ZRat
open Go.RowKit Go.Proofs.YtofklpmlgfbmlaaGreat.Wd
open Go Go.Proofs.YtofklpmlgfbmlaaGreat.Ab Go.Proofs Go.Proofs.YtofklpmlgfbmlaaGreat.Num Go.Proofs.YtofklpmlgfbmlaaGreat.ZRatP
set_option linter.unusedSimpArgs false
set_option linter.unusedVariables false
set_option maxHeartbeats 8000000
set_option maxRecDepth 100000
noncomputable def RAdd : List AV → Option AV
  | [x0, x1] => (ratP 4000 x0).bind fun a0 => (ratP 4000 x1).bind fun a1 => some (ratA (mkRat a0.1 a0.2 + mkRat a1.1 a1.2))
  | _ => none
attribute [simp] RAdd
noncomputable def ROf : List AV → Option AV
  | [x0] => (unN .i64 x0).bind fun a0 => if -9223372036854775808 ≤ a0 ∧ a0 < 9223372036854775808 then some (ratA (mkRat a0 1)) else none
  | _ => none
noncomputable def E_ROf : Env := mkS [(48, WOf)] [] []
theorem run_ROf (a0 : Int) (hc : -9223372036854775808 ≤ a0 ∧ a0 < 9223372036854775808) : AEnds E_ROf (finW Tryz.prog Tryz.f56.results) 0 [.code (Tryz.f56.body.getD .skip)] (startA Tryz.f56 [.int .i64 a0] [] []) (ratA (mkRat a0 1)) := by
  haveI := SzI.rng hc
  simp only [Tryz.f56, Option.getD_some, startA]
  rw [show mkRat a0 1 = (a0 : Rat) by rw [Rat.mkRat_eq_div]; simp; grind]
  simp (maxSteps := 4000000) (disch := (first | with_reducible rfl | assumption | with_reducible exact WB_NB _ _ | (with_reducible refine nb_le ?_; omega) | (with_reducible refine nb16_le ?_; omega) | omega | (simp only [List.length_append, List.length_map, List.length_cons, List.length_nil, List.length_set, List.length_replicate, List.length_take, List.size_toArray]; omega))) [E_ROf, hc]
  rfl
theorem sROf : GoodS (56, ROf) := by
  intro xs r h
  simp only at h
  unfold ROf at h
  split at h
  · obtain ⟨a0, h0, h⟩ := Option.bind_eq_some_iff.1 h
    split at h
    · rename_i hc
      cases h
      obtain rfl := unN_eq h0
      exact .inl <| okW_ends (mkS_ok (alls_cons sWOf alls_nil)) mixed Tryz.func56 rfl (by kernel_rfl : Fits Tryz.prog E_ROf.ref E_ROf.dep Tryz.f56 = true) (run_ROf _ hc)
    · cases h
  · cases h
attribute [simp] ROf
end Go.Proofs.YtofklpmlgfbmlaaGreat.ZRat
namespace Go.Proofs.YtofklpmlgfbmlaaGreat.ZRat
open Go.RowKit Go.Proofs.YtofklpmlgfbmlaaGreat.Wd
open Go Go.Proofs.YtofklpmlgfbmlaaGreat.Ab Go.Proofs Go.Proofs.YtofklpmlgfbmlaaGreat.Num Go.Proofs.YtofklpmlgfbmlaaGreat.ZRatP
set_option linter.unusedSimpArgs false
set_option linter.unusedVariables false
set_option maxHeartbeats 8000000
set_option maxRecDepth 100000
noncomputable def RMake : List AV → Option AV
  | [x0, x1] => (intD 4000 x0).bind fun a0 => (intD 4000 x1).bind fun a1 => some (if a1 = 0 then .tup [ratA 0, .int .i64 3] else .tup [ratA ((a0 : Rat) / (a1 : Rat)), .int .i64 0])
  | _ => none
noncomputable def E_RMake : Env := mkS [(111, WSign), (112, Rnorm), (113, WNeg), (114, Rlowest)] [] []
theorem run_RMake (s0 : Bool) (l0 : List Int) (w0 : WB 4294967296 l0) (b0 : l0.length ≤ 4000) (s1 : Bool) (l1 : List Int) (w1 : WB 4294967296 l1) (b1 : l1.length ≤ 4000) : AEnds E_RMake (finW Tryz.prog Tryz.f65.results) 0 [.code (Tryz.f65.body.getD .skip)] (startA Tryz.f65 [.agg [.bool s0, rowI .u32 l0], .agg [.bool s1, rowI .u32 l1]] [] []) (if (IVal s1 l1) = 0 then .tup [ratA 0, .int .i64 3] else .tup [ratA (((IVal s0 l0) : Rat) / ((IVal s1 l1) : Rat)), .int .i64 0]) := by
  haveI := SzI.val (neg := s0) w0 b0
  haveI := SzI.val (neg := s1) w1 b1
  simp only [Tryz.f65, Option.getD_some, startA]
  by_cases hd : IVal s1 l1 = 0
  · rw [if_pos hd, ratA_zero]
    simp (maxSteps := 4000000) (disch := (first | with_reducible rfl | assumption | with_reducible exact WB_NB _ _ | (with_reducible refine nb_le ?_; omega) | (with_reducible refine nb16_le ?_; omega) | omega | (simp only [List.length_append, List.length_map, List.length_cons, List.length_nil, List.length_set, List.length_replicate, List.length_take, List.size_toArray]; omega))) [E_RMake, hd]
  · rw [if_neg hd, ← mkquo _ _ hd]
    by_cases hn : IVal s1 l1 < 0
    · rw [if_pos hn]
      have hs := IVal_lt hn
      subst hs
      simp (maxSteps := 4000000) (disch := (first | with_reducible rfl | assumption | with_reducible exact WB_NB _ _ | (with_reducible refine nb_le ?_; omega) | (with_reducible refine nb16_le ?_; omega) | omega | (simp only [List.length_append, List.length_map, List.length_cons, List.length_nil, List.length_set, List.length_replicate, List.length_take, List.size_toArray]; omega))) [E_RMake, hd, hn, IVal_abs true l1]
    · rw [if_neg hn]
      have hs := IVal_ge hn hd
      subst hs
      have hd2 : ¬ VB 4294967296 l1 = 0 := by rw [IVal_false] at hd; omega
      simp (maxSteps := 4000000) (disch := (first | with_reducible rfl | assumption | with_reducible exact WB_NB _ _ | (with_reducible refine nb_le ?_; omega) | (with_reducible refine nb16_le ?_; omega) | omega | (simp only [List.length_append, List.length_map, List.length_cons, List.length_nil, List.length_set, List.length_replicate, List.length_take, List.size_toArray]; omega))) [E_RMake, hd, hn, hd2]
      all_goals rfl
theorem sRMake : GoodS (65, RMake) := by
  intro xs r h
  simp only at h
  unfold RMake at h
  split at h
  · obtain ⟨a0, h0, h⟩ := Option.bind_eq_some_iff.1 h
    obtain ⟨a1, h1, h⟩ := Option.bind_eq_some_iff.1 h
    cases h
    obtain ⟨s0, l0, rfl, w0, b0, rfl⟩ := intD_out h0
    obtain ⟨s1, l1, rfl, w1, b1, rfl⟩ := intD_out h1
    exact .inl <| okW_ends (mkS_ok (alls_cons sWSign (alls_cons sRnorm (alls_cons sWNeg (alls_cons sRlowest alls_nil))))) mixed Tryz.func65 rfl (by kernel_rfl : Fits Tryz.prog E_RMake.ref E_RMake.dep Tryz.f65 = true) (run_RMake _ _ w0 b0 _ _ w1 b1)
  · cases h
attribute [simp] RMake
noncomputable def RDiv : List AV → Option AV
  | [x0, x1] => (ratP 4000 x0).bind fun a0 => (ratP 4000 x1).bind fun a1 => some (if mkRat a1.1 a1.2 = 0 then .tup [ratA 0, .int .i64 3] else .tup [ratA (mkRat a0.1 a0.2 / mkRat a1.1 a1.2), .int .i64 0])
  | _ => none
noncomputable def E_RDiv : Env := mkS [(111, WSign), (112, Rnorm), (113, WNeg), (47, WMul), (92, NMul), (165, Rplain), (114, Rlowest)] [] [(4, [([], [], false), ([], [], false), ([], [], false), ([], [], false), ([], [], false), ([], [], false), ([], [], false), ([0], [], false)])]
theorem run_RDiv (s0 : Bool) (l0 m0 : List Int) (w0 : WB 4294967296 l0) (b0 : l0.length ≤ 4000) (v0 : WB 4294967296 m0) (c0 : m0.length ≤ 4000) (s1 : Bool) (l1 m1 : List Int) (w1 : WB 4294967296 l1) (b1 : l1.length ≤ 4000) (v1 : WB 4294967296 m1) (c1 : m1.length ≤ 4000) : AEnds E_RDiv (finW Tryz.prog Tryz.f132.results) 0 [.code (Tryz.f132.body.getD .skip)] (startA Tryz.f132 [.agg [.bool s0, rowI .u32 l0, rowI .u32 m0], .agg [.bool s1, rowI .u32 l1, rowI .u32 m1]] [] []) (if mkRat (IVal s1 l1) (VB 4294967296 m1) = 0 then .tup [ratA 0, .int .i64 3] else .tup [ratA (mkRat (IVal s0 l0) (VB 4294967296 m0) / mkRat (IVal s1 l1) (VB 4294967296 m1)), .int .i64 0]) := by
  haveI := SzI.val (neg := s0) w0 b0
  haveI := SzN.val v0 c0
  haveI := SzI.val (neg := s1) w1 b1
  haveI := SzN.val v1 c1
  simp only [Tryz.f132, Option.getD_some, startA]
  generalize hq : mkRat (IVal s1 l1) (VB 4294967296 m1) = q at *
  haveI : SzQ q 8001 := by rw [← hq]; infer_instance
  by_cases hd : q = 0
  · rw [if_pos hd, ratA_zero]
    simp (maxSteps := 4000000) (disch := (first | with_reducible rfl | assumption | with_reducible exact WB_NB _ _ | (with_reducible refine nb_le ?_; omega) | (with_reducible refine nb16_le ?_; omega) | omega | (simp only [List.length_append, List.length_map, List.length_cons, List.length_nil, List.length_set, List.length_replicate, List.length_take, List.size_toArray]; omega))) [E_RDiv, hq, hd]
  · rw [if_neg hd, ← mkdiv _ _ hd]
    have hz : ¬ q.num = 0 := by rwa [Rat.num_eq_zero]
    by_cases hn : q.num < 0
    · rw [if_pos hn]
      have hI := IVal_can q.num
      rw [decide_eq_true hn] at hI
      simp (maxSteps := 4000000) (disch := (first | with_reducible rfl | assumption | with_reducible exact WB_NB _ _ | (with_reducible refine nb_le ?_; omega) | (with_reducible refine nb16_le ?_; omega) | omega | (simp only [List.length_append, List.length_map, List.length_cons, List.length_nil, List.length_set, List.length_replicate, List.length_take, List.size_toArray]; omega))) [E_RDiv, hq, hd, hn, hz, hI]
    · rw [if_neg hn]
      have hI : ((q.num.natAbs : Nat) : Int) = q.num := by omega
      simp (maxSteps := 4000000) (disch := (first | with_reducible rfl | assumption | with_reducible exact WB_NB _ _ | (with_reducible refine nb_le ?_; omega) | (with_reducible refine nb16_le ?_; omega) | omega | (simp only [List.length_append, List.length_map, List.length_cons, List.length_nil, List.length_set, List.length_replicate, List.length_take, List.size_toArray]; omega))) [E_RDiv, hq, hd, hn, hz, hI]
theorem sRDiv : GoodS (132, RDiv) := by
  intro xs r h
  simp only at h
  unfold RDiv at h
  split at h
  · obtain ⟨a0, h0, h⟩ := Option.bind_eq_some_iff.1 h
    obtain ⟨a1, h1, h⟩ := Option.bind_eq_some_iff.1 h
    cases h
    obtain ⟨s0, l0, m0, rfl, w0, b0, v0, c0, rfl⟩ := ratP_out h0
    obtain ⟨s1, l1, m1, rfl, w1, b1, v1, c1, rfl⟩ := ratP_out h1
    exact .inl <| okW_ends (mkS_ok (alls_cons sWSign (alls_cons sRnorm (alls_cons sWNeg (alls_cons sWMul (alls_cons sNMul (alls_cons sRplain (alls_cons sRlowest alls_nil)))))))) mixed Tryz.func132 rfl (by kernel_rfl : Fits Tryz.prog E_RDiv.ref E_RDiv.dep Tryz.f132 = true) (run_RDiv _ _ _ w0 b0 v0 c0 _ _ _ w1 b1 v1 c1)
  · cases h
attribute [simp] RDiv
end Go.Proofs.YtofklpmlgfbmlaaGreat.ZRat
namespace Go.Proofs.YtofklpmlgfbmlaaGreat.ZRat
open Go.RowKit Go.Proofs.YtofklpmlgfbmlaaGreat.Wd
open Go Go.Proofs.YtofklpmlgfbmlaaGreat.Ab Go.Proofs Go.Proofs.YtofklpmlgfbmlaaGreat.Num Go.Proofs.YtofklpmlgfbmlaaGreat.ZRatP
set_option linter.unusedSimpArgs false
set_option linter.unusedVariables false
set_option maxHeartbeats 8000000
set_option maxRecDepth 100000
noncomputable def FOf : List AV → Option AV
  | [x0] => (ratP 100000 x0).bind fun a0 => some (rratA (rn a0.1 a0.2) (rD a0.2))
  | _ => none
noncomputable def E_FOf : Env := mkS [(68, DOf), (41, ZLong), (69, ZOf)] [] []
theorem run_FOf (s0 : Bool) (l0 m0 : List Int) (w0 : WB 4294967296 l0) (b0 : l0.length ≤ 100000) (v0 : WB 4294967296 m0) (c0 : m0.length ≤ 100000) : AEnds E_FOf (finW Tryz.prog Tryz.f23.results) 0 [.code (Tryz.f23.body.getD .skip)] (startA Tryz.f23 [.agg [.bool s0, rowI .u32 l0, rowI .u32 m0]] [] []) (rratA (rn (IVal s0 l0) (VB 4294967296 m0)) (rD (VB 4294967296 m0))) := by
  haveI := SzI.val (neg := s0) w0 b0
  haveI := SzN.val v0 c0
  simp only [Tryz.f23, Option.getD_some, startA]
  by_cases hd : VB 4294967296 m0 = 0
  · rw [show rn (IVal s0 l0) (VB 4294967296 m0) = 0 from if_pos hd, show rD (VB 4294967296 m0) = 1 from if_pos hd]
    simp (maxSteps := 4000000) (disch := (first | with_reducible rfl | assumption | with_reducible exact WB_NB _ _ | (with_reducible refine nb_le ?_; omega) | (with_reducible refine nb16_le ?_; omega) | omega | (simp only [List.length_append, List.length_map, List.length_cons, List.length_nil, List.length_set, List.length_replicate, List.length_take, List.size_toArray]; omega))) [E_FOf, hd, -Int.sign_mul, -Int.sign_neg, -Int.natAbs_neg]
  · rw [show rn (IVal s0 l0) (VB 4294967296 m0) = IVal s0 l0 from if_neg hd, show rD (VB 4294967296 m0) = ((VB 4294967296 m0 : Nat) : Int) from if_neg hd]
    have h1 : ((VB 4294967296 m0 : Nat) : Int).sign = 1 := Int.sign_eq_one_of_pos (by omega)
    simp (maxSteps := 4000000) (disch := (first | with_reducible rfl | assumption | with_reducible exact WB_NB _ _ | (with_reducible refine nb_le ?_; omega) | (with_reducible refine nb16_le ?_; omega) | omega | (simp only [List.length_append, List.length_map, List.length_cons, List.length_nil, List.length_set, List.length_replicate, List.length_take, List.size_toArray]; omega))) [E_FOf, hd, h1, -Int.sign_mul, -Int.sign_neg, -Int.natAbs_neg]
theorem sFOf : GoodS (23, FOf) := by
  intro xs r h
  simp only at h
  unfold FOf at h
  split at h
  · obtain ⟨a0, h0, h⟩ := Option.bind_eq_some_iff.1 h
    cases h
    obtain ⟨s0, l0, m0, rfl, w0, b0, v0, c0, rfl⟩ := ratP_out h0
    exact .inl <| okW_ends (mkS_ok (alls_cons sDOf (alls_cons sZLong (alls_cons sZOf alls_nil)))) mixed Tryz.func23 rfl (by kernel_rfl : Fits Tryz.prog E_FOf.ref E_FOf.dep Tryz.f23 = true) (run_FOf _ _ _ w0 b0 v0 c0)
  · cases h
attribute [simp] FOf
noncomputable def FOver : List AV → Option AV
  | [x0, x1] => (rintD 200000 x0).bind fun a0 => (rintD 200000 x1).bind fun a1 => some (if a1 < 0 then rratA (-a0) (-a1) else rratA a0 a1)
  | _ => none
noncomputable def E_FOver : Env := mkS [(126, ZNeg)] [] []
theorem run_FOver (a0 : Int) (b0 : (NB 65536 a0.natAbs).length ≤ 200000) (a1 : Int) (b1 : (NB 65536 a1.natAbs).length ≤ 200000) : AEnds E_FOver (finW Tryz.prog Tryz.f81.results) 0 [.code (Tryz.f81.body.getD .skip)] (startA Tryz.f81 [rintA a0, rintA a1] [] []) (if a1 < 0 then rratA (-a0) (-a1) else rratA a0 a1) := by
  haveI := SzI.dig b0
  haveI := SzI.dig b1
  simp only [Tryz.f81, Option.getD_some, startA]
  by_cases hd : a1 < 0
  · rw [if_pos hd]
    have h1 : a1.sign < 0 := by rw [sign_lt]; exact hd
    simp (maxSteps := 4000000) (disch := (first | with_reducible rfl | assumption | with_reducible exact WB_NB _ _ | (with_reducible refine nb_le ?_; omega) | (with_reducible refine nb16_le ?_; omega) | omega | (simp only [List.length_append, List.length_map, List.length_cons, List.length_nil, List.length_set, List.length_replicate, List.length_take, List.size_toArray]; omega))) [E_FOver, hd, h1, -Int.sign_mul, -Int.sign_neg, -Int.natAbs_neg]
  · rw [if_neg hd]
    have h1 : ¬ a1.sign < 0 := by rw [sign_lt]; exact hd
    simp (maxSteps := 4000000) (disch := (first | with_reducible rfl | assumption | with_reducible exact WB_NB _ _ | (with_reducible refine nb_le ?_; omega) | (with_reducible refine nb16_le ?_; omega) | omega | (simp only [List.length_append, List.length_map, List.length_cons, List.length_nil, List.length_set, List.length_replicate, List.length_take, List.size_toArray]; omega))) [E_FOver, hd, h1, -Int.sign_mul, -Int.sign_neg, -Int.natAbs_neg]
theorem sFOver : GoodS (81, FOver) := by
  intro xs r h
  simp only at h
  unfold FOver at h
  split at h
  · obtain ⟨a0, h0, h⟩ := Option.bind_eq_some_iff.1 h
    obtain ⟨a1, h1, h⟩ := Option.bind_eq_some_iff.1 h
    cases h
    obtain ⟨rfl, b0⟩ := rintD_out h0
    obtain ⟨rfl, b1⟩ := rintD_out h1
    exact .inl <| okW_ends (mkS_ok (alls_cons sZNeg alls_nil)) mixed Tryz.func81 rfl (by kernel_rfl : Fits Tryz.prog E_FOver.ref E_FOver.dep Tryz.f81 = true) (run_FOver _ b0 _ b1)
  · cases h
attribute [simp] FOver
noncomputable def FCmp : List AV → Option AV
  | [x0, x1] => (rratD 100000 x0).bind fun a0 => (rratD 100000 x1).bind fun a1 => some (.int .i64 (cmpZ (a0.1 * a1.2) (a1.1 * a0.2)))
  | _ => none
noncomputable def E_FCmp : Env := mkS [(35, ZMul), (31, ZCmp)] [] []
theorem run_FCmp (n0 d0 : Int) (b0 : (NB 65536 n0.natAbs).length ≤ 100000) (c0 : (NB 65536 d0.natAbs).length ≤ 100000) (n1 d1 : Int) (b1 : (NB 65536 n1.natAbs).length ≤ 100000) (c1 : (NB 65536 d1.natAbs).length ≤ 100000) : AEnds E_FCmp (finW Tryz.prog Tryz.f34.results) 0 [.code (Tryz.f34.body.getD .skip)] (startA Tryz.f34 [rratA n0 d0, rratA n1 d1] [] []) (.int .i64 (cmpZ (n0 * d1) (n1 * d0))) := by
  haveI := SzI.dig b0
  haveI := SzI.dig c0
  haveI := SzI.dig b1
  haveI := SzI.dig c1
  simp only [Tryz.f34, Option.getD_some, startA]
  simp (maxSteps := 4000000) (disch := (first | with_reducible rfl | assumption | with_reducible exact WB_NB _ _ | (with_reducible refine nb_le ?_; omega) | (with_reducible refine nb16_le ?_; omega) | omega | (simp only [List.length_append, List.length_map, List.length_cons, List.length_nil, List.length_set, List.length_replicate, List.length_take, List.size_toArray]; omega))) [E_FCmp, -Int.sign_mul, -Int.sign_neg, -Int.natAbs_neg]
theorem sFCmp : GoodS (34, FCmp) := by
  intro xs r h
  simp only at h
  unfold FCmp at h
  split at h
  · obtain ⟨a0, h0, h⟩ := Option.bind_eq_some_iff.1 h
    obtain ⟨a1, h1, h⟩ := Option.bind_eq_some_iff.1 h
    cases h
    obtain ⟨rfl, b0, c0⟩ := rratD_out h0
    obtain ⟨rfl, b1, c1⟩ := rratD_out h1
    exact .inl <| okW_ends (mkS_ok (alls_cons sZMul (alls_cons sZCmp alls_nil))) mixed Tryz.func34 rfl (by kernel_rfl : Fits Tryz.prog E_FCmp.ref E_FCmp.dep Tryz.f34 = true) (run_FCmp _ _ b0 c0 _ _ b1 c1)
  · cases h
attribute [simp] FCmp
end Go.Proofs.YtofklpmlgfbmlaaGreat.ZRat
namespace Go.Proofs.YtofklpmlgfbmlaaGreat.ZRat
open Go.RowKit Go.Proofs.YtofklpmlgfbmlaaGreat.Wd
open Go Go.Proofs.YtofklpmlgfbmlaaGreat.Ab Go.Proofs Go.Proofs.YtofklpmlgfbmlaaGreat.Num Go.Proofs.YtofklpmlgfbmlaaGreat.ZRatP
set_option linter.unusedSimpArgs false
set_option linter.unusedVariables false
set_option maxHeartbeats 8000000
set_option maxRecDepth 100000
noncomputable def FLow : List AV → Option AV
  | [x0] => (rratD 100000 x0).bind fun a0 => if a0.2 ≠ 0 then some (rratA (mkRat a0.1 a0.2.natAbs).num (mkRat a0.1 a0.2.natAbs).den) else none
  | _ => none
noncomputable def E_FLow : Env := mkS [(109, DGcd), (110, DDivMod), (41, ZLong)] [] []
theorem run_FLow (n0 d0 : Int) (b0 : (NB 65536 n0.natAbs).length ≤ 100000) (c0 : (NB 65536 d0.natAbs).length ≤ 100000) (hc : d0 ≠ 0) : AEnds E_FLow (finW Tryz.prog Tryz.f63.results) 0 [.code (Tryz.f63.body.getD .skip)] (startA Tryz.f63 [rratA n0 d0] [] []) (rratA (mkRat n0 d0.natAbs).num (mkRat n0 d0.natAbs).den) := by
  haveI := SzI.dig b0
  haveI := SzI.dig c0
  simp only [Tryz.f63, Option.getD_some, startA]
  by_cases hn : n0 = 0
  · subst hn
    rw [Rat.zero_mkRat, Rat.zero_num, Rat.zero_den]
    simp (maxSteps := 4000000) (disch := (first | with_reducible rfl | assumption | with_reducible exact WB_NB _ _ | (with_reducible refine nb_le ?_; omega) | (with_reducible refine nb16_le ?_; omega) | omega | (simp only [List.length_append, List.length_map, List.length_cons, List.length_nil, List.length_set, List.length_replicate, List.length_take, List.size_toArray]; omega))) [E_FLow, -Int.sign_mul, -Int.sign_neg, -Int.natAbs_neg]
  · have hd : ¬ d0.natAbs = 0 := by omega
    obtain ⟨e1, e2, e3⟩ := lowest_num n0 d0.natAbs hd
    have hs : ((mkRat n0 d0.natAbs).den : Int).sign = 1 := Int.sign_eq_one_of_pos (by have := (mkRat n0 d0.natAbs).den_pos; omega)
    unfold rratA
    rw [e1, e2, Int.natAbs_natCast, hs, e3]
    simp (maxSteps := 4000000) (disch := (first | with_reducible rfl | assumption | with_reducible exact WB_NB _ _ | (with_reducible refine nb_le ?_; omega) | (with_reducible refine nb16_le ?_; omega) | omega | (simp only [List.length_append, List.length_map, List.length_cons, List.length_nil, List.length_set, List.length_replicate, List.length_take, List.size_toArray]; omega))) [E_FLow, hn, hd, hc, -Int.sign_mul, -Int.sign_neg, -Int.natAbs_neg]
theorem sFLow : GoodS (63, FLow) := by
  intro xs r h
  simp only at h
  unfold FLow at h
  split at h
  · obtain ⟨a0, h0, h⟩ := Option.bind_eq_some_iff.1 h
    split at h
    · rename_i hc
      cases h
      obtain ⟨rfl, b0, c0⟩ := rratD_out h0
      exact .inl <| okW_ends (mkS_ok (alls_cons sDGcd (alls_cons sDDivMod (alls_cons sZLong alls_nil)))) mixed Tryz.func63 rfl (by kernel_rfl : Fits Tryz.prog E_FLow.ref E_FLow.dep Tryz.f63 = true) (run_FLow _ _ b0 c0 hc)
    · cases h
  · cases h
attribute [simp] FLow
end Go.Proofs.YtofklpmlgfbmlaaGreat.ZRat
/- A law's arguments as abstract values. -/
namespace Go.Proofs.YtofklpmlgfbmlaaGreat.Ab
open Go
set_option linter.unusedVariables false
set_option linter.unusedSimpArgs false
/-- Parts one behind the other. -/
def TyFs (T : TypeId → List AV → Prop) : List TypeId → List AV → Prop
  | [], xs => xs = []
  | t :: ts, xs => ∃ ys zs, xs = ys ++ zs ∧ T t ys ∧ TyFs T ts zs
/-- What the cells of a value of a type are. -/
def TyL (P : Program) : Nat → TypeId → List AV → Prop
  | 0, _, _ => False
  | d + 1, t, xs =>
    match P.underlying t with
    | some .bool => ∃ b, xs = [.bool b]
    | some (.int k) => ∃ n, xs = [.int k n] ∧ (Lit.int k n).wf = true
    | some .string => ∃ s, xs = [.str s] ∧ s.size ≤ maxLen
    | some (.slice e) => ∃ l : List (List AV), xs = [.row l.length l.flatten] ∧ l.length ≤ maxLen ∧ ∀ ys ∈ l, ys.length = P.cellsOf e ∧ TyL P d e ys
    | some (.struct fs) => TyFs (TyL P d) (fs.toList.map (·.type)) xs
    | some (.array n e) => TyFs (TyL P d) (List.replicate n e) xs
    | _ => False
/-- Whether fields lie one behind the other. -/
def tiles (P : Program) : Nat → List Field → Option Nat
  | o, [] => some o
  | o, f :: fs => if f.offset = o then tiles P (o + P.cellsOf f.type) fs else none
/-- Types of numbers, texts, slices, structs and arrays. -/
def plainT (P : Program) : Nat → TypeId → Bool
  | 0, _ => false
  | d + 1, t =>
    match P.underlying t with
    | some .bool | some .string => P.cellsOf t == 1
    | some (.int _) => P.cellsOf t == 1
    | some (.slice e) => P.cellsOf t == 1 && plainT P d e
    | some (.struct fs) => P.cellsOf t != 0 && tiles P 0 fs.toList == some (P.cellsOf t) && fs.toList.all fun f => plainT P d f.type
    | some (.array n e) => P.cellsOf t != 0 && P.cellsOf t == n * P.cellsOf e && plainT P d e
    | _ => false
section
variable {H : Type} {enc : TypeId × Value → H} {P : Program} {w : World}
/-- Old memory. -/
abbrev Old (w : World) (b : Nat) : Prop := b < w.heap.size
/-- Cells beside abstract ones. -/
def CL (w : World) (xs : List AV) (cs : List Value) : Prop := xs.length = cs.length ∧ ∀ (j : Nat) (c : AV), xs[j]? = some c → ∃ v, cs[j]? = some v ∧ P1 (Old w) w c v
theorem CL.app {a b : List AV} {c d : List Value} (h : CL w a c) (k : CL w b d) : CL w (a ++ b) (c ++ d) := by
  refine ⟨by simp [h.1, k.1], fun j x hj => ?_⟩
  rw [List.getElem?_append] at hj
  split at hj
  · rename_i hl
    obtain ⟨v, hv, hp⟩ := h.2 j x hj
    exact ⟨v, by rw [List.getElem?_append, if_pos (by rw [← h.1]; exact hl)]; exact hv, hp⟩
  · rename_i hl
    obtain ⟨v, hv, hp⟩ := k.2 _ x hj
    exact ⟨v, by rw [List.getElem?_append, if_neg (by rw [← h.1]; exact hl), ← h.1]; exact hv, hp⟩
theorem CL.one {x : AV} {v : Value} (h : P1 (Old w) w x v) : CL w [x] [v] := ⟨rfl, fun j c hj => by
  cases j with
  | zero => simp at hj; subst hj; exact ⟨v, rfl, h⟩
  | succ j => simp at hj⟩
/-- The reading of one place. -/
abbrev Rdg (enc : TypeId × Value → H) (P : Program) (w : World) (fuel : Nat) (t : TypeId) (cs : List Value) : Option (DataW H × List MemPlace) := DataW.trod enc P w 0 (fun _ => true) true fuel t cs
theorem mapM_cons_some {α β : Type} {f : α → Option β} {a : α} {l : List α} {r : List β} (h : (a :: l).mapM f = some r) : ∃ b bs, f a = some b ∧ l.mapM f = some bs ∧ r = b :: bs := by
  rw [List.mapM_cons] at h
  cases h1 : f a with
  | none => simp [h1] at h
  | some b =>
    cases h2 : l.mapM f with
    | none => simp [h1, h2] at h
    | some bs => simp [h1, h2] at h; exact ⟨b, bs, rfl, rfl, h.symm⟩
theorem range_get {n : Nat} {f : Nat → Option Value} {cs : List Value} (h : (List.range n).mapM f = some cs) : cs.length = n ∧ ∀ i, i < n → f i = cs[i]? := by
  have key : ∀ (m k : Nat) (cs : List Value), (List.range' k m).mapM f = some cs → cs.length = m ∧ ∀ i, i < m → f (k + i) = cs[i]? := by
    intro m
    induction m with
    | zero => intro k cs h; simp at h; subst h; exact ⟨rfl, fun i hi => by omega⟩
    | succ m ih =>
      intro k cs h
      rw [List.range'_succ] at h
      obtain ⟨b, bs, h1, h2, rfl⟩ := mapM_cons_some h
      obtain ⟨h3, h4⟩ := ih _ _ h2
      refine ⟨by simp [h3], fun i hi => ?_⟩
      cases i with
      | zero => simpa using h1
      | succ i => have := h4 i (by omega); rw [show k + (i + 1) = k + 1 + i by omega]; simpa using this
  rw [List.range_eq_range'] at h
  obtain ⟨h1, h2⟩ := key n 0 cs h
  exact ⟨h1, fun i hi => by simpa using h2 i hi⟩
theorem cellsAt {a : Addr} {n : Nat} {cs : List Value} (h : w.cells? 0 a n = some cs) : cs.length = n ∧ ∀ i, i < n → w.cell? (a.add i) = cs[i]? := by
  unfold World.cells? at h
  rw [if_pos (Nat.zero_le _)] at h
  exact range_get h
theorem cell_lt {a : Addr} {v : Value} (h : w.cell? a = some v) : a.block < w.heap.size ∧ a.spot = none := by
  unfold World.cell? at h
  split at h
  · rename_i hb
    refine ⟨(Array.getElem?_eq_some_iff.1 hb).1, ?_⟩
    split at h
    · cases h
    · rename_i hs; simpa using hs
  · cases h
theorem addr_add (a : Addr) (i j : Nat) : (a.add i).add j = a.add (i + j) := by
  unfold Addr.add
  by_cases hi : i = 0
  · subst hi; simp
  · by_cases hj : j = 0
    · subst hj; simp [hi]
    · simp [hi, hj, show i + j ≠ 0 by omega, Nat.add_assoc]
theorem addr_none (b o j : Nat) : (⟨b, o, none⟩ : Addr).add j = ⟨b, o + j, none⟩ := by unfold Addr.add; split <;> simp_all
theorem cells_pos : ∀ {d : Nat} {t : TypeId}, plainT P d t = true → 0 < P.cellsOf t := by
  intro d t h
  cases d with
  | zero => simp [plainT] at h
  | succ d =>
    simp only [plainT] at h
    split at h
    all_goals (try simp only [Bool.and_eq_true, beq_iff_eq, bne_iff_ne] at h)
    all_goals first | (cases h; done) | omega
theorem elems_of {fuel d : Nat} {e : TypeId} (ih : ∀ (cs : List Value) (y : DataW H × List MemPlace), Rdg enc P w fuel e cs = some y → ∃ xs, CL w xs cs ∧ TyL P d e xs ∧ xs.length = P.cellsOf e) (a : Addr) : ∀ (n k : Nat) (ys : List (DataW H × List MemPlace)),
    ((List.range' k n).mapM fun i => (w.cells? 0 (a.add (i * P.cellsOf e)) (P.cellsOf e)).bind (Rdg enc P w fuel e)) = some ys → ∃ l : List (List AV), l.length = n ∧ (∀ xs ∈ l, xs.length = P.cellsOf e ∧ TyL P d e xs) ∧
      ∀ (j : Nat) (c : AV), l.flatten[j]? = some c → ∃ v, w.cell? (a.add (k * P.cellsOf e + j)) = some v ∧ P1 (Old w) w c v := by
  intro n
  induction n with
  | zero =>
    intro k ys h
    refine ⟨[], rfl, (fun x hx => absurd hx (List.not_mem_nil)), fun j c hj => ?_⟩
    simp at hj
  | succ n ihn =>
    intro k ys h
    rw [List.range'_succ] at h
    obtain ⟨b, bs, h1, h2, rfl⟩ := mapM_cons_some h
    obtain ⟨l, g1, g2, g3⟩ := ihn _ _ h2
    obtain ⟨cs, hc, hr⟩ := Option.bind_eq_some_iff.1 h1
    obtain ⟨xs, e1, e2, e3⟩ := ih cs b hr
    obtain ⟨f1, f2⟩ := cellsAt hc
    refine ⟨xs :: l, by simp [g1], fun x hx => ?_, fun j c hj => ?_⟩
    · rcases List.mem_cons.1 hx with q | q
      · subst q; exact ⟨e3, e2⟩
      · exact g2 x q
    · simp only [List.flatten_cons] at hj
      rw [List.getElem?_append] at hj
      split at hj
      · rename_i hl
        obtain ⟨v, hv, hp⟩ := e1.2 j c hj
        refine ⟨v, ?_, hp⟩
        have := f2 j (by omega)
        rw [hv, addr_add] at this
        exact this
      · rename_i hl
        obtain ⟨v, hv, hp⟩ := g3 _ c hj
        refine ⟨v, ?_, hp⟩
        rw [show k * P.cellsOf e + j = (k + 1) * P.cellsOf e + (j - xs.length) by rw [Nat.add_mul]; omega]
        exact hv
theorem fields_of {fuel d : Nat} {cs : List Value} (ih : ∀ (t : TypeId) (cs : List Value) (y : DataW H × List MemPlace), Rdg enc P w fuel t cs = some y → plainT P d t = true → ∃ xs, CL w xs cs ∧ TyL P d t xs ∧ xs.length = P.cellsOf t) : ∀ (fs : List Field) (o n : Nat) (ys : List (DataW H × List MemPlace)), tiles P o fs = some n →
    (∀ f ∈ fs, plainT P d f.type = true) → fs.mapM (fun f => Rdg enc P w fuel f.type ((cs.drop f.offset).take (P.cellsOf f.type))) = some ys → cs.length = n → o ≤ n → ∃ xs, CL w xs (cs.drop o) ∧ TyFs (TyL P d) (fs.map (·.type)) xs := by
  intro fs
  induction fs with
  | nil =>
    intro o n ys ht hp h hl ho
    simp only [tiles, Option.some.injEq] at ht
    subst ht
    exact ⟨[], by rw [List.drop_of_length_le (by omega)]; exact ⟨rfl, fun j c hj => by simp at hj⟩, rfl⟩
  | cons f fs ihf =>
    intro o n ys ht hp h hl ho
    simp only [tiles] at ht
    split at ht
    · rename_i hf
      obtain ⟨b, bs, h1, h2, rfl⟩ := mapM_cons_some h
      obtain ⟨xs, e1, e2, e3⟩ := ih _ _ _ h1 (hp f (by simp))
      have hle : o + P.cellsOf f.type ≤ n := by
        have := e1.1
        rw [e3, List.length_take, List.length_drop, hf] at this
        by_cases h0 : P.cellsOf f.type = 0
        · omega
        · omega
      obtain ⟨zs, g1, g2⟩ := ihf _ n _ ht (fun g hg => hp g (by simp [hg])) h2 hl hle
      refine ⟨xs ++ zs, ?_, xs, zs, rfl, e2, g2⟩
      have hh := e1.app g1
      rw [hf, ← List.drop_drop, List.take_append_drop] at hh
      exact hh
    · cases ht
theorem parts_of {fuel d : Nat} {e : TypeId} {cs : List Value} (ih : ∀ (cs : List Value) (y : DataW H × List MemPlace), Rdg enc P w fuel e cs = some y → ∃ xs, CL w xs cs ∧ TyL P d e xs ∧ xs.length = P.cellsOf e) : ∀ (n k : Nat) (ys : List (DataW H × List MemPlace)),
    (List.range' k n).mapM (fun i => Rdg enc P w fuel e ((cs.drop (i * P.cellsOf e)).take (P.cellsOf e))) = some ys → cs.length = (k + n) * P.cellsOf e → ∃ xs, CL w xs (cs.drop (k * P.cellsOf e)) ∧ TyFs (TyL P d) (List.replicate n e) xs := by
  intro n
  induction n with
  | zero =>
    intro k ys h hl
    exact ⟨[], by rw [List.drop_of_length_le (by rw [hl]; simp)]; exact ⟨rfl, fun j c hj => by simp at hj⟩, rfl⟩
  | succ n ihn =>
    intro k ys h hl
    rw [List.range'_succ] at h
    obtain ⟨b, bs, h1, h2, rfl⟩ := mapM_cons_some h
    obtain ⟨xs, e1, e2, e3⟩ := ih _ _ h1
    obtain ⟨zs, g1, g2⟩ := ihn _ _ h2 (by rw [hl]; congr 1; omega)
    refine ⟨xs ++ zs, ?_, xs, zs, rfl, e2, g2⟩
    have hh := e1.app g1
    rw [Nat.add_mul, Nat.one_mul, ← List.drop_drop, List.take_append_drop] at hh
    exact hh
theorem open_all : ∀ (fuel d : Nat) (t : TypeId) (cs : List Value) (y : DataW H × List MemPlace), Rdg enc P w fuel t cs = some y → plainT P d t = true → ∃ xs, CL w xs cs ∧ TyL P d t xs ∧ xs.length = P.cellsOf t := by
  intro fuel
  induction fuel with
  | zero => intro d t cs y h; simp [Rdg, DataW.trod] at h
  | succ fuel ih =>
    intro d t cs y h hp
    cases d with
    | zero => simp [plainT] at hp
    | succ d =>
    have hlen : ∀ {xs : List AV}, CL w xs cs → xs.length = cs.length := fun h => h.1
    simp only [Rdg, DataW.trod] at h
    simp only [plainT] at hp
    simp only [TyL]
    split at hp
    · rename_i hu
      simp only [beq_iff_eq] at hp
      simp only [hu] at h ⊢
      split at h
      all_goals try (simp_all; done)
      rename_i b _
      exact ⟨[.bool b], CL.one (by simp only [P1]), ⟨b, rfl⟩, by simp [hp]⟩
    · rename_i hu
      simp only [beq_iff_eq] at hp
      simp only [hu] at h ⊢
      split at h
      all_goals try (simp_all; done)
      rename_i s _
      split at h
      · rename_i hs; exact ⟨[.str s], CL.one (by simp only [P1]), ⟨s, rfl, hs⟩, by simp [hp]⟩
      · cases h
    · rename_i k hu
      simp only [beq_iff_eq] at hp
      simp only [hu] at h ⊢
      split at h
      all_goals try (simp_all; done)
      rename_i k2 k' n e
      simp only [Option.some.injEq, TypeDesc.int.injEq] at e
      split at h
      · rename_i hk
        obtain ⟨rfl, hw⟩ := hk
        subst e
        exact ⟨[.int _ n], CL.one (by simp only [P1]), ⟨n, rfl, hw⟩, by simp [hp]⟩
      · cases h
    · rename_i e hu
      simp only [Bool.and_eq_true, beq_iff_eq] at hp
      simp only [hu] at h ⊢
      split at h
      all_goals try (simp_all; done)
      · exact ⟨[.row 0 []], CL.one (by simp only [P1]; exact ⟨none, 0, rfl, Nat.le_refl _, by simp⟩), ⟨[], rfl, Nat.zero_le _, fun _ h => by cases h⟩, by simp [hp.1]⟩
      · rename_i _ _ _ a len cap hu2
        simp only [Option.some.injEq, TypeDesc.slice.injEq] at hu2
        subst hu2
        split at h
        · rename_i hb
          obtain ⟨ys, h1, h2⟩ := Option.bind_eq_some_iff.1 h
          rw [List.range_eq_range'] at h1
          obtain ⟨l, g1, g2, g3⟩ := elems_of (d := d) (fun cs y hy => ih d _ cs y hy hp.2) a len 0 ys h1
          refine ⟨[.row l.length l.flatten], CL.one ?_, ⟨l, rfl, by omega, fun ys hy => g2 ys hy⟩, by simp [hp.1]⟩
          simp only [P1]
          refine ⟨some a, cap, by rw [g1], by omega, ?_⟩
          by_cases h0 : l.flatten = []
          · by_cases hl0 : l.length = 0
            · exact .inl ⟨hl0, h0⟩
            · exfalso
              obtain ⟨x, xs, rfl⟩ : ∃ x xs, l = x :: xs := by cases l with | nil => simp at hl0 | cons x xs => exact ⟨x, xs, rfl⟩
              have hx := (g2 x (by simp)).1
              simp only [List.flatten_cons, List.append_eq_nil_iff] at h0
              rw [h0.1] at hx
              have := cells_pos hp.2
              simp at hx; omega
          · obtain ⟨c, cs', hcs⟩ : ∃ c cs', l.flatten = c :: cs' := by cases hq : l.flatten with | nil => exact (h0 hq).elim | cons c cs' => exact ⟨c, cs', rfl⟩
            obtain ⟨v, hv, _⟩ := g3 0 c (by rw [hcs]; rfl)
            have hv' : w.cell? a = some v := by simpa [Addr.add] using hv
            obtain ⟨hlt, hsp⟩ := cell_lt hv'
            obtain ⟨b, o, sp⟩ := a
            simp only at hsp hlt
            subst hsp
            refine .inr ⟨b, o, rfl, hlt, PC.of fun j c hj => ?_⟩
            obtain ⟨v, hv, hp⟩ := g3 j c hj
            exact ⟨v, by simpa [addr_none] using hv, hp⟩
        · cases h
    · rename_i fs hu
      simp only [Bool.and_eq_true, beq_iff_eq, List.all_eq_true, bne_iff_ne] at hp
      replace hp := And.intro hp.1.2 hp.2
      simp only [hu] at h ⊢
      split at h
      · rename_i hl
        obtain ⟨ys, h1, h2⟩ := Option.map_eq_some_iff.1 h
        obtain ⟨xs, g1, g2⟩ := fields_of (d := d) (fun t cs y hy hp => ih d t cs y hy hp) fs.toList 0 _ ys hp.1 (fun f hf => hp.2 f hf) h1 hl (Nat.zero_le _)
        rw [List.drop_zero] at g1
        exact ⟨xs, g1, g2, by rw [g1.1, hl]⟩
      · cases h
    · rename_i n e hu
      simp only [Bool.and_eq_true, beq_iff_eq, bne_iff_ne] at hp
      replace hp := And.intro hp.1.2 hp.2
      simp only [hu] at h ⊢
      split at h
      · rename_i hl
        obtain ⟨ys, h1, h2⟩ := Option.map_eq_some_iff.1 h
        rw [List.range_eq_range'] at h1
        obtain ⟨xs, g1, g2⟩ := parts_of (d := d) (fun cs y hy => ih d _ cs y hy hp.2) n 0 ys h1 (by rw [hl, hp.1, Nat.zero_add])
        rw [Nat.zero_mul, List.drop_zero] at g1
        exact ⟨xs, g1, g2, by rw [g1.1, hl]⟩
      · cases h
    · cases hp
theorem CL.agg {xs : List AV} {cs : Array Value} (h : CL w xs cs.toList) : V2 none' (Old w) w (.agg xs) (.agg cs) := by
  simp only [V2]
  refine ⟨cs, rfl, by simpa using h.1, fun j c hj => ?_⟩
  obtain ⟨v, hv, hp⟩ := h.2 j c hj
  exact ⟨v, by simpa using hv, hp.v1⟩
theorem open_agg {r : Reach} {base n : Nat} {t : TypeId} {v : Value} {d : DataW H} {p : List MemPlace} (hs : (∃ fs, P.underlying t = some (.struct fs)) ∨ ∃ m e, P.underlying t = some (.array m e)) (hval : Value.okWide P w r base t v)
    (h : DataW.Trod enc P w 0 (fun _ => true) true t v d p) (hp : plainT P n t = true) : ∃ xs, V2 none' (Old w) w (.agg xs) v ∧ TyL P n t xs := by
  obtain ⟨fuel, hf⟩ := h
  obtain ⟨xs, h1, h2, _⟩ := open_all fuel n t _ _ hf hp
  have hv : ∃ cs, v = .agg cs := by
    unfold Value.okWide at hval
    rcases hs with ⟨fs, hs⟩ | ⟨m, e, hs⟩
    · rw [hs] at hval; exact ⟨_, hval.choose_spec.1⟩
    · rw [hs] at hval; exact ⟨_, hval.choose_spec.1⟩
  obtain ⟨cs, rfl⟩ := hv
  exact ⟨xs, CL.agg h1, h2⟩
theorem LR.nil {R : AV → Value → Prop} : LR R [] [] := ⟨rfl, fun j c hj => by simp at hj⟩
theorem LR.cons {R : AV → Value → Prop} {c : AV} {v : Value} {cs : List AV} {vs : List Value} (h : R c v) (k : LR R cs vs) : LR R (c :: cs) (v :: vs) := by
  refine ⟨by simp [k.1], fun j x hj => ?_⟩
  cases j with
  | zero => simp at hj; subst hj; exact ⟨v, rfl, h⟩
  | succ j => exact k.2 j x (by simpa using hj)
theorem ExtV.below {S S' : Nat → Prop} {w' : World} (X : ExtV S S' w w') : Go.RowKit.Below w.heap.size w w' := ⟨X.os, X.tape, X.output, X.size, fun k hk => X.old k hk⟩
theorem ty_struct {d : Nat} {t : TypeId} {fs : Array Field} {xs : List AV} (ht : P.underlying t = some (.struct fs)) (h : TyL P (d + 1) t xs) : TyFs (TyL P d) (fs.toList.map (·.type)) xs := by
  simp only [TyL, ht] at h; exact h
theorem ty_int {d : Nat} {t : TypeId} {k : IntKind} {xs : List AV} (ht : P.underlying t = some (.int k)) (h : TyL P (d + 1) t xs) : ∃ n, xs = [.int k n] ∧ (Lit.int k n).wf = true := by
  simp only [TyL, ht] at h; exact h
end
end Go.Proofs.YtofklpmlgfbmlaaGreat.Ab
