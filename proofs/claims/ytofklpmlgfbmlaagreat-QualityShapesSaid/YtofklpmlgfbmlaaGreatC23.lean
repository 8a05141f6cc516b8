/- Walks by the abstract run: numbers of 128 bits. -/
import Derived.Test.YtofklpmlgfbmlaaGreatC10
import Derived.Test.YtofklpmlgfbmlaaGreatC8
set_option linter.unusedVariables false
set_option linter.unusedSimpArgs false
namespace Go.Proofs.YtofklpmlgfbmlaaGreat.ZRat
open Go.RowKit Go.Proofs.YtofklpmlgfbmlaaGreat.Wd
open Go Go.Proofs.YtofklpmlgfbmlaaGreat.Ab Go.Proofs Go.Proofs.YtofklpmlgfbmlaaGreat.Num Go.Proofs.YtofklpmlgfbmlaaGreat.ZRatP
set_option linter.unusedSimpArgs false
set_option linter.unusedVariables false
set_option maxHeartbeats 8000000
set_option maxRecDepth 100000
theorem quadD_0 : quadD (.agg [.int .u64 0, .int .u64 0, .int .u64 0, .int .u64 0]) = some 0 := by
  unfold quadD; simp
theorem quadD_U (z : Int) (hz : -57896044618658097711785492504343953926634992332820282019728792003956564819968 ≤ z ∧ z < 57896044618658097711785492504343953926634992332820282019728792003956564819968) : quadD (.agg [.int .u64 (z % 18446744073709551616), .int .u64 (z / 18446744073709551616 % 18446744073709551616), .int .u64 (z / 340282366920938463463374607431768211456 % 18446744073709551616), .int .u64 (z / 6277101735386680763835789423207666416102355444464034512896 % 18446744073709551616)]) = some z := quadD_A z hz
noncomputable def WNm : List AV → Option AV
  | [x, y] => (unB x).bind fun a => (natD 1000000 y).bind fun b => some (intA (if a = true then -(b : Int) else (b : Int)))
  | _ => none
theorem sWNm : GoodS (91, WNm) := by
  intro xs r h
  simp only at h
  unfold WNm at h
  split at h
  · obtain ⟨a, h0, h⟩ := Option.bind_eq_some_iff.1 h
    obtain ⟨b, h1, h⟩ := Option.bind_eq_some_iff.1 h
    cases h
    obtain rfl := unB_eq h0
    obtain ⟨l, rfl, -, w, bl, rfl⟩ := natD_out h1
    have p := ev_pick (fun k r h => whole_norm.mono _ _ k r h) (norm_f a l w (by omega))
    refine .inl (good91 _ _ ?_)
    simp only [SV, SV91, unI_rowI, unB, Option.bind_some]
    rw [p]
    rfl
  · cases h
attribute [simp] WNm quadD_0
noncomputable def QNeg : List AV → Option AV
  | [x0] => (quadD x0).bind fun a0 => some (quadA (-a0))
  | _ => none
noncomputable def E_QNeg : Env := mkS [(137, QSub)] [] []
theorem run_QNeg (a0 : Int) (b0 : -57896044618658097711785492504343953926634992332820282019728792003956564819968 ≤ a0 ∧ a0 < 57896044618658097711785492504343953926634992332820282019728792003956564819968) : AEnds E_QNeg (finW Tryz.prog Tryz.f134.results) 0 [.code (Tryz.f134.body.getD .skip)] (startA Tryz.f134 [quadA a0] [] []) (quadA (-a0)) := by
  simp only [Tryz.f134, Option.getD_some, startA]
  simp only [quadA]
  have hz := quadD_U a0 b0
  simp (maxSteps := 4000000) (disch := (first | with_reducible rfl | assumption | with_reducible exact WB_NB _ _ | (with_reducible refine nb_le ?_; omega) | (with_reducible refine nb16_le ?_; omega) | omega | (simp only [List.length_append, List.length_map, List.length_cons, List.length_nil, List.length_set, List.length_replicate, List.length_take, List.size_toArray]; omega))) [E_QNeg, hz, quadA, Int.zero_sub]
theorem sQNeg : GoodS (134, QNeg) := by
  intro xs r h
  simp only at h
  unfold QNeg at h
  split at h
  · obtain ⟨a0, h0, h⟩ := Option.bind_eq_some_iff.1 h
    cases h
    obtain ⟨rfl, b0⟩ := quadD_out h0
    exact .inl <| okW_ends (mkS_ok (alls_cons sQSub alls_nil)) mixed Tryz.func134 rfl (by kernel_rfl : Fits Tryz.prog E_QNeg.ref E_QNeg.dep Tryz.f134 = true) (run_QNeg _ b0)
  · cases h
attribute [simp] QNeg
noncomputable def QBelow : List AV → Option AV
  | [x0] => (quadD x0).bind fun a0 => some (.bool (decide (a0 < 0)))
  | _ => none
noncomputable def E_QBelow : Env := mkS [] [] []
theorem run_QBelow (a0 : Int) (b0 : -57896044618658097711785492504343953926634992332820282019728792003956564819968 ≤ a0 ∧ a0 < 57896044618658097711785492504343953926634992332820282019728792003956564819968) : AEnds E_QBelow (finW Tryz.prog Tryz.f166.results) 0 [.code (Tryz.f166.body.getD .skip)] (startA Tryz.f166 [quadA a0] [] []) (.bool (decide (a0 < 0))) := by
  simp only [Tryz.f166, Option.getD_some, startA]
  obtain ⟨p0, q0, r0, s0, e0, ⟨hp0, hp0'⟩, ⟨hq0, hq0'⟩, ⟨hr0, hr0'⟩, ⟨hs0, hs0'⟩, v0⟩ := quad_words a0 b0
  rw [e0]
  by_cases hn : 9223372036854775808 ≤ s0
  · rw [if_pos hn] at v0
    have h1 : s0.fdiv 9223372036854775808 = 1 := by rw [fdivP (by omega)]; omega
    have h2 : a0 < 0 := by omega
    simp (maxSteps := 4000000) (disch := (first | with_reducible rfl | assumption | with_reducible exact WB_NB _ _ | (with_reducible refine nb_le ?_; omega) | (with_reducible refine nb16_le ?_; omega) | omega | (simp only [List.length_append, List.length_map, List.length_cons, List.length_nil, List.length_set, List.length_replicate, List.length_take, List.size_toArray]; omega))) [E_QBelow, h1, h2]
  · rw [if_neg hn] at v0
    have h1 : s0.fdiv 9223372036854775808 = 0 := by rw [fdivP (by omega)]; omega
    have h2 : ¬ a0 < 0 := by omega
    simp (maxSteps := 4000000) (disch := (first | with_reducible rfl | assumption | with_reducible exact WB_NB _ _ | (with_reducible refine nb_le ?_; omega) | (with_reducible refine nb16_le ?_; omega) | omega | (simp only [List.length_append, List.length_map, List.length_cons, List.length_nil, List.length_set, List.length_replicate, List.length_take, List.size_toArray]; omega))) [E_QBelow, h1, h2]
theorem sQBelow : GoodS (166, QBelow) := by
  intro xs r h
  simp only at h
  unfold QBelow at h
  split at h
  · obtain ⟨a0, h0, h⟩ := Option.bind_eq_some_iff.1 h
    cases h
    obtain ⟨rfl, b0⟩ := quadD_out h0
    exact .inl <| okW_ends (mkS_ok alls_nil) mixed Tryz.func166 rfl (by kernel_rfl : Fits Tryz.prog E_QBelow.ref E_QBelow.dep Tryz.f166 = true) (run_QBelow _ b0)
  · cases h
attribute [simp] QBelow
noncomputable def QSign : List AV → Option AV
  | [x0] => (quadD x0).bind fun a0 => some (.int .i64 a0.sign)
  | _ => none
noncomputable def E_QSign : Env := mkS [(166, QBelow)] [] []
theorem run_QSign (a0 : Int) (b0 : -57896044618658097711785492504343953926634992332820282019728792003956564819968 ≤ a0 ∧ a0 < 57896044618658097711785492504343953926634992332820282019728792003956564819968) : AEnds E_QSign (finW Tryz.prog Tryz.f133.results) 0 [.code (Tryz.f133.body.getD .skip)] (startA Tryz.f133 [quadA a0] [] []) (.int .i64 a0.sign) := by
  simp only [Tryz.f133, Option.getD_some, startA]
  obtain ⟨p0, q0, r0, s0, e0, ⟨hp0, hp0'⟩, ⟨hq0, hq0'⟩, ⟨hr0, hr0'⟩, ⟨hs0, hs0'⟩, v0⟩ := quad_words a0 b0
  have hd : quadD (.agg [.int .u64 p0, .int .u64 q0, .int .u64 r0, .int .u64 s0]) = some a0 := by rw [← e0]; exact quadD_A a0 b0
  rw [e0]
  by_cases hneg : a0 < 0
  · rw [Int.sign_eq_neg_one_of_neg hneg]
    simp (maxSteps := 4000000) (disch := (first | with_reducible rfl | assumption | with_reducible exact WB_NB _ _ | (with_reducible refine nb_le ?_; omega) | (with_reducible refine nb16_le ?_; omega) | omega | (simp only [List.length_append, List.length_map, List.length_cons, List.length_nil, List.length_set, List.length_replicate, List.length_take, List.size_toArray]; omega))) [E_QSign, nilOp, hd, hneg]
  · have hsn : ¬ 9223372036854775808 ≤ s0 := fun h => by rw [if_pos h] at v0; omega
    rw [if_neg hsn] at v0
    by_cases hz : a0 = 0
    · have h1 : p0 = 0 := by omega
      have h2 : q0 = 0 := by omega
      have h3 : r0 = 0 := by omega
      have h4 : s0 = 0 := by omega
      subst hz h1 h2 h3 h4
      simp (maxSteps := 4000000) (disch := (first | with_reducible rfl | assumption | with_reducible exact WB_NB _ _ | (with_reducible refine nb_le ?_; omega) | (with_reducible refine nb16_le ?_; omega) | omega | (simp only [List.length_append, List.length_map, List.length_cons, List.length_nil, List.length_set, List.length_replicate, List.length_take, List.size_toArray]; omega))) [E_QSign, nilOp, hd]
    · rw [Int.sign_eq_one_of_pos (by omega)]
      have hne : p0 = 0 → q0 = 0 → r0 = 0 → ¬ s0 = 0 := by omega
      by_cases h1 : p0 = 0
      · subst h1
        by_cases h2 : q0 = 0
        · subst h2
          by_cases h3 : r0 = 0
          · subst h3
            have h4 := hne rfl rfl rfl
            simp (maxSteps := 4000000) (disch := (first | with_reducible rfl | assumption | with_reducible exact WB_NB _ _ | (with_reducible refine nb_le ?_; omega) | (with_reducible refine nb16_le ?_; omega) | omega | (simp only [List.length_append, List.length_map, List.length_cons, List.length_nil, List.length_set, List.length_replicate, List.length_take, List.size_toArray]; omega))) [E_QSign, nilOp, hd, hneg, h4]
          · simp (maxSteps := 4000000) (disch := (first | with_reducible rfl | assumption | with_reducible exact WB_NB _ _ | (with_reducible refine nb_le ?_; omega) | (with_reducible refine nb16_le ?_; omega) | omega | (simp only [List.length_append, List.length_map, List.length_cons, List.length_nil, List.length_set, List.length_replicate, List.length_take, List.size_toArray]; omega))) [E_QSign, nilOp, hd, hneg, h3]
        · simp (maxSteps := 4000000) (disch := (first | with_reducible rfl | assumption | with_reducible exact WB_NB _ _ | (with_reducible refine nb_le ?_; omega) | (with_reducible refine nb16_le ?_; omega) | omega | (simp only [List.length_append, List.length_map, List.length_cons, List.length_nil, List.length_set, List.length_replicate, List.length_take, List.size_toArray]; omega))) [E_QSign, nilOp, hd, hneg, h2]
      · simp (maxSteps := 4000000) (disch := (first | with_reducible rfl | assumption | with_reducible exact WB_NB _ _ | (with_reducible refine nb_le ?_; omega) | (with_reducible refine nb16_le ?_; omega) | omega | (simp only [List.length_append, List.length_map, List.length_cons, List.length_nil, List.length_set, List.length_replicate, List.length_take, List.size_toArray]; omega))) [E_QSign, nilOp, hd, hneg, h1]
theorem sQSign : GoodS (133, QSign) := by
  intro xs r h
  simp only at h
  unfold QSign at h
  split at h
  · obtain ⟨a0, h0, h⟩ := Option.bind_eq_some_iff.1 h
    cases h
    obtain ⟨rfl, b0⟩ := quadD_out h0
    exact .inl <| okW_ends (mkS_ok (alls_cons sQBelow alls_nil)) mixed Tryz.func133 rfl (by kernel_rfl : Fits Tryz.prog E_QSign.ref E_QSign.dep Tryz.f133 = true) (run_QSign _ b0)
  · cases h
attribute [simp] QSign
end Go.Proofs.YtofklpmlgfbmlaaGreat.ZRat
