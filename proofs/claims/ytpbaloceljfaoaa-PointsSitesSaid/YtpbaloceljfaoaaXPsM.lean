import Derived.Test.YtpbaloceljfaoaaLt
import Derived.Test.YtpbaloceljfaoaaXPsK
import Derived.Test.YtpbaloceljfaoaaXPsI1
import Derived.Test.YtpbaloceljfaoaaXPsI2
import Derived.Test.YtpbaloceljfaoaaXPsI3
import Derived.Test.YtpbaloceljfaoaaXPsI4
import Derived.Test.YtpbaloceljfaoaaXPsI5
import Derived.Test.YtpbaloceljfaoaaXPsI6
import Derived.Test.YtpbaloceljfaoaaXPsI7
import Derived.Test.YtpbaloceljfaoaaXPsI8
set_option linter.unusedVariables false
set_option linter.unusedSimpArgs false
namespace Go.Proofs.Ytpbaloceljfaoaa.ZRat
open Go.RowKit Go.Proofs.Ytpbaloceljfaoaa.Wd
open Go Go.Proofs.Ytpbaloceljfaoaa.Ab Go.Proofs
set_option linter.unusedSimpArgs false
set_option linter.unusedVariables false
set_option maxHeartbeats 8000000
set_option maxRecDepth 100000
theorem ps_round {a0 : Int} {r1 : List G3} {i : Nat} {r : AV} (hc : r1.length ≤ 10) (hi : i < r1.length) (hok : okI a0 r1 i) (IH : AEnds E_PSites (finW Try.prog Try.f5.results) 0 (atLoop Try.f5 6) (C_PS a0 r1 (i + 1)) r) : AEnds E_PSites (finW Try.prog Try.f5.results) 0 (atLoop Try.f5 6) (C_PS a0 r1 i) r := by
  obtain ⟨⟨k1, k2⟩, k3, ⟨k4, k5, k6, k7⟩, k8⟩ := hok
  cases i with
  | zero => exact ps_round0 hc hi (by omega) (by omega) (by omega) (by omega) (by omega) (by omega) IH
  | succ i =>
    refine ps_round1 (by omega) hc hi (by omega) (by omega) (fA1n _ _ _ fun p hp e => ?_) (by omega) (by omega) (by omega) (by omega) (fA2n _ _ _ _ fun p hp e => ?_) IH
    · obtain ⟨k, hk, rfl⟩ := (take_mem (Nat.le_of_lt hi) p).1 hp
      exact k3 k hk e
    · obtain ⟨k, hk, rfl⟩ := (take_mem (Nat.le_of_lt hi) p).1 hp
      exact k8 k hk e
theorem ps_bad {a0 : Int} {r1 : List G3} {N : Nat} (hc : r1.length ≤ 10) (hN : N < r1.length) (hbad : ¬ okI a0 r1 N) : AEnds E_PSites (finW Try.prog Try.f5.results) 0 (atLoop Try.f5 6) (C_PS a0 r1 N) (.tup [.row 0 [], .int .i64 18]) := by
  cases N with
  | zero =>
    by_cases b1 : (gAt r1 0).1 < 0
    · exact ps_bad0_1 hc hN b1
    by_cases b2 : 16777216 ≤ (gAt r1 0).1
    · exact ps_bad0_2 hc hN b1 b2
    by_cases b4 : (gAt r1 0).2.1 < 0
    · exact ps_bad0_4 hc hN b1 b2 b4
    by_cases b5 : a0 ≤ (gAt r1 0).2.1
    · exact ps_bad0_5 hc hN b1 b2 b4 b5
    by_cases b6 : (gAt r1 0).2.2 < 0
    · exact ps_bad0_6 hc hN b1 b2 b4 b5 b6
    by_cases b7 : a0 ≤ (gAt r1 0).2.2
    · exact ps_bad0_7 hc hN b1 b2 b4 b5 b6 b7
    exact (hbad ⟨⟨by omega, by omega⟩, fun k hk => by omega, ⟨by omega, by omega, by omega, by omega⟩, fun k hk => by omega⟩).elim
  | succ N =>
    have hi1 : 1 ≤ N + 1 := by omega
    generalize hM : N + 1 = M at *
    have e : C_PS a0 r1 M = C_P1 a0 r1 M := by subst hM; rfl
    rw [e]
    by_cases b1 : (gAt r1 M).1 < 0
    · exact ps_bad1_1 hi1 hc hN b1
    by_cases b2 : 16777216 ≤ (gAt r1 M).1
    · exact ps_bad1_2 hi1 hc hN b1 b2
    by_cases b3 : ∃ p ∈ r1.take M, p.1 = (gAt r1 M).1
    · obtain ⟨j, f1⟩ := fA1s _ _ 0 b3
      exact ps_bad1_3 hi1 hc hN b1 b2 f1
    have f1 := fA1n (gAt r1 M).1 (r1.take M) 0 (fun p hp e => b3 ⟨p, hp, e⟩)
    by_cases b4 : (gAt r1 M).2.1 < 0
    · exact ps_bad1_4 hi1 hc hN b1 b2 f1 b4
    by_cases b5 : a0 ≤ (gAt r1 M).2.1
    · exact ps_bad1_5 hi1 hc hN b1 b2 f1 b4 b5
    by_cases b6 : (gAt r1 M).2.2 < 0
    · exact ps_bad1_6 hi1 hc hN b1 b2 f1 b4 b5 b6
    by_cases b7 : a0 ≤ (gAt r1 M).2.2
    · exact ps_bad1_7 hi1 hc hN b1 b2 f1 b4 b5 b6 b7
    by_cases b8 : ∃ p ∈ r1.take M, p.2.1 = (gAt r1 M).2.1 ∧ p.2.2 = (gAt r1 M).2.2
    · obtain ⟨j, f2⟩ := fA2s _ _ _ 0 b8
      exact ps_bad1_8 hi1 hc hN b1 b2 f1 b4 b5 b6 b7 f2
    exact (hbad ⟨⟨by omega, by omega⟩, fun k hk e => b3 ⟨_, (take_mem (Nat.le_of_lt hN) _).2 ⟨k, hk, rfl⟩, e⟩, ⟨by omega, by omega, by omega, by omega⟩, fun k hk e => b8 ⟨_, (take_mem (Nat.le_of_lt hN) _).2 ⟨k, hk, rfl⟩, e⟩⟩).elim
open Classical in
noncomputable def PSites : List AV → Option AV
  | [x0, x1] => (unN .i64 x0).bind fun a0 => (dec rowG x1).bind fun r1 => if r1.length ≤ 10 then some (sitesR a0 r1) else none
  | _ => none
theorem run_PSites (a0 : Int) (r1 : List G3) (hc : r1.length ≤ 10) : AEnds E_PSites (finW Try.prog Try.f5.results) 0 [.code (Try.f5.body.getD .skip)] (startA Try.f5 [.int .i64 a0, rowG r1] [] []) (sitesR a0 r1) := by
  simp only [Try.f5, Option.getD_some, startA]
  by_cases h1 : 1 ≤ a0
  · by_cases h2 : a0 ≤ 1073741824
    · have hl := lenG r1
      have f1 : ¬ a0 < 1 := by omega
      have f2 : ¬ a0 > 1073741824 := by omega
      unfold rowG
      simp (maxSteps := 4000000) (disch := (first | with_reducible rfl | assumption | omega | (simp only [List.length_append, List.length_map, List.length_cons, List.length_nil, List.length_set, List.length_replicate, List.length_take, List.size_toArray]; omega))) [E_PSites, f1, f2, hl]
      rcases first_bad a0 r1 with hq | ⟨N, hN, hbad, hq⟩
      · rw [sitesR_ok h1 h2 hq]
        refine loop_up (C_PS a0 r1) r1.length ?_ (fun i hi IH => ?_) ?_
        · simp only [E_PSites, firstR, mkQ_keep, keepT, List.find?, Nat.reduceBEq, Option.map_some, Option.getD_some]
          simp (maxSteps := 4000000) (disch := (first | with_reducible rfl | assumption | omega | (simp only [List.length_append, List.length_map, List.length_cons, List.length_nil, List.length_set, List.length_replicate, List.length_take, List.size_toArray]; omega))) [E_PSites, C_PS, C_P0]
        · exact ps_round hc hi (hq i hi) IH
        · have hsm : smallG r1 := fun p hp => by
            obtain ⟨k, hk⟩ := List.getElem?_of_mem hp
            have hk2 := (List.getElem?_eq_some_iff.1 hk).1
            rw [gAt_get hk2] at hk
            have := (hq k hk2).1
            rw [Option.some.inj hk] at this
            exact this
          have hsl := seqG_len (Nat.le_refl r1.length)
          have hls := lenG (seqG r1 r1.length)
          rw [hsl] at hls ⊢
          cases hr : r1.length with
          | zero =>
            have e : r1 = [] := List.eq_nil_of_length_eq_zero hr
            subst e
            simp only [C_PS, C_P0, seqG_0, List.length_nil, List.flatMap_nil]
            simp (maxSteps := 4000000) (disch := (first | with_reducible rfl | assumption | omega | (simp only [List.length_append, List.length_map, List.length_cons, List.length_nil, List.length_set, List.length_replicate, List.length_take, List.size_toArray]; omega))) [E_PSites]
          | succ n =>
            have e1 : 1 ≤ r1.length := by omega
            have e2 : r1.take (n + 1) = r1 := List.take_of_length_le (by omega)
            have hQ := decQ_of r1
            simp only [C_PS, C_P1, e2]
            rw [hr] at hQ hl hls e1
            have hc2 : n + 1 ≤ 10 := by omega
            generalize hD : r1.flatMap cG = D at *
            generalize hS : (seqG r1 (n + 1)).flatMap cG = S at *
            simp (maxSteps := 4000000) (disch := (first | with_reducible rfl | assumption | omega | (simp only [List.length_append, List.length_map, List.length_cons, List.length_nil, List.length_set, List.length_replicate, List.length_take, List.size_toArray]; omega))) [E_PSites, hl, hls, hr, hQ, hS, e1, hc2, hsm]
      · rw [sitesR_bad hN hbad]
        refine loop_up (C_PS a0 r1) N ?_ (fun i hi0 IH => ?_) ?_
        · simp only [E_PSites, firstR, mkQ_keep, keepT, List.find?, Nat.reduceBEq, Option.map_some, Option.getD_some]
          simp (maxSteps := 4000000) (disch := (first | with_reducible rfl | assumption | omega | (simp only [List.length_append, List.length_map, List.length_cons, List.length_nil, List.length_set, List.length_replicate, List.length_take, List.size_toArray]; omega))) [E_PSites, C_PS, C_P0]
        · exact ps_round hc (by omega) (hq i hi0) IH
        · exact ps_bad hc hN hbad
    · rw [sitesR_n2 h2]
      have f1 : ¬ a0 < 1 := by omega
      have f2 : a0 > 1073741824 := by omega
      simp (maxSteps := 4000000) (disch := (first | with_reducible rfl | assumption | omega | (simp only [List.length_append, List.length_map, List.length_cons, List.length_nil, List.length_set, List.length_replicate, List.length_take, List.size_toArray]; omega))) [E_PSites, f1, f2]
  · rw [sitesR_n1 h1]
    have f1 : a0 < 1 := by omega
    simp (maxSteps := 4000000) (disch := (first | with_reducible rfl | assumption | omega | (simp only [List.length_append, List.length_map, List.length_cons, List.length_nil, List.length_set, List.length_replicate, List.length_take, List.size_toArray]; omega))) [E_PSites, f1]
theorem sPSites : GoodS (5, PSites) := by
  intro xs r h
  simp only at h
  unfold PSites at h
  split at h
  · obtain ⟨a0, h0, h⟩ := Option.bind_eq_some_iff.1 h
    obtain ⟨r1, h1, h⟩ := Option.bind_eq_some_iff.1 h
    split at h
    · rename_i hc
      cases h
      obtain rfl := unN_eq h0
      obtain rfl := dec_out h1
      exact .inl <| okW_ends (mkQ_ok alls_nil (allq_cons qQSFx allq_nil)) mixed Try.func5 rfl (by kernel_rfl : Fits Try.prog E_PSites.ref E_PSites.dep Try.f5 = true) (run_PSites _ _ hc)
    · cases h
  · cases h
attribute [simp] PSites
end Go.Proofs.Ytpbaloceljfaoaa.ZRat
