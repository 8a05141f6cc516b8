import Derived.Test.YtpbaloceljfaoaaLt
import Derived.Test.YtpbaloceljfaoaaXPsC
import Derived.Test.YtpbaloceljfaoaaXPsD
import Derived.Test.YtpbaloceljfaoaaXPsE1
import Derived.Test.YtpbaloceljfaoaaXPsE2
import Derived.Test.YtpbaloceljfaoaaXPsE3
import Derived.Test.YtpbaloceljfaoaaXPsE4
import Derived.Test.YtpbaloceljfaoaaXPsE5
set_option linter.unusedVariables false
set_option linter.unusedSimpArgs false
namespace Go.Proofs.Ytpbaloceljfaoaa.ZRat
open Go.RowKit Go.Proofs.Ytpbaloceljfaoaa.Wd
open Go Go.Proofs.Ytpbaloceljfaoaa.Ab Go.Proofs
set_option linter.unusedSimpArgs false
set_option linter.unusedVariables false
set_option maxHeartbeats 8000000
set_option maxRecDepth 100000
open Classical in
noncomputable def RSites : List AV → Option AV
  | [x0, x1] => (unN .i64 x0).bind fun a0 => (dec rowG x1).bind fun r1 => if r1.length ≤ 50 then some (sitesR a0 r1) else none
  | _ => none
theorem run_RSites (a0 : Int) (r1 : List G3) (hc : r1.length ≤ 50) : AEnds E_RSites (finW Try.prog Try.f6.results) 0 [.code (Try.f6.body.getD .skip)] (startA Try.f6 [.int .i64 a0, rowG r1] [] []) (sitesR a0 r1) := by
  simp only [Try.f6, Option.getD_some, startA]
  by_cases h1 : 1 ≤ a0
  · by_cases h2 : a0 ≤ 1073741824
    · have hl := lenG r1
      have f1 : ¬ a0 < 1 := by omega
      have f2 : ¬ a0 > 1073741824 := by omega
      have h0 : lC (seqG r1 0) = .nil := rfl
      unfold rowG
      simp (maxSteps := 4000000) (disch := (first | with_reducible rfl | assumption | omega | (simp only [List.length_append, List.length_map, List.length_cons, List.length_nil, List.length_set, List.length_replicate, List.length_take, List.size_toArray]; omega))) [E_RSites, f1, f2, hl]
      rcases first_bad a0 r1 with hq | ⟨N, hN, hbad, hq⟩
      · rw [sitesR_ok h1 h2 hq]
        refine loop_up (C_RS a0 r1) r1.length ?_ (fun i hi IH => ?_) ?_
        · simp only [E_RSites, firstR, mkQ_keep, keepT, List.find?, Nat.reduceBEq, Option.map_some, Option.getD_some]
          simp (maxSteps := 4000000) (disch := (first | with_reducible rfl | assumption | omega | (simp only [List.length_append, List.length_map, List.length_cons, List.length_nil, List.length_set, List.length_replicate, List.length_take, List.size_toArray]; omega))) [E_RSites, C_RS, h0]
        · exact rs_round hc hi (hq i hi) IH
        · simp only [C_RS]
          have hLl := seqG_len (Nat.le_refl r1.length)
          have lL := lenG (seqG r1 r1.length)
          generalize seqG r1 r1.length = L at *
          rcases lC_cases L with ⟨eL, e0⟩ | eL
          · rw [eL]
            subst e0
            simp (maxSteps := 4000000) (disch := (first | with_reducible rfl | assumption | omega | (simp only [List.length_append, List.length_map, List.length_cons, List.length_nil, List.length_set, List.length_replicate, List.length_take, List.size_toArray]; omega))) [E_RSites, hl, lL]
          · rw [eL]
            simp (maxSteps := 4000000) (disch := (first | with_reducible rfl | assumption | omega | (simp only [List.length_append, List.length_map, List.length_cons, List.length_nil, List.length_set, List.length_replicate, List.length_take, List.size_toArray]; omega))) [E_RSites, hl, lL]
      · rw [sitesR_bad hN hbad]
        refine loop_up (C_RS a0 r1) N ?_ (fun i hi0 IH => ?_) ?_
        · simp only [E_RSites, firstR, mkQ_keep, keepT, List.find?, Nat.reduceBEq, Option.map_some, Option.getD_some]
          simp (maxSteps := 4000000) (disch := (first | with_reducible rfl | assumption | omega | (simp only [List.length_append, List.length_map, List.length_cons, List.length_nil, List.length_set, List.length_replicate, List.length_take, List.size_toArray]; omega))) [E_RSites, C_RS, h0]
        · exact rs_round hc (by omega) (hq i hi0) IH
        · have q1 := idx_seq r1 N (Nat.le_of_lt hN) (fun p => p.1 == (gAt r1 N).1)
          have q2 := idx_seq r1 N (Nat.le_of_lt hN) (fun p => p.2.1 == (gAt r1 N).2.1 && p.2.2 == (gAt r1 N).2.2)
          by_cases b1 : (gAt r1 N).1 < 0
          · exact rs_bad1 hc hN b1
          by_cases b2 : 16777216 ≤ (gAt r1 N).1
          · exact rs_bad2 hc hN b1 b2
          by_cases b3 : 0 ≤ idxG (seqG r1 N) (fun p => p.1 == (gAt r1 N).1)
          · exact rs_bad3 hc hN b1 b2 b3
          by_cases b4 : (0 ≤ (gAt r1 N).2.1 ∧ (gAt r1 N).2.1 < a0 ∧ 0 ≤ (gAt r1 N).2.2 ∧ (gAt r1 N).2.2 < a0)
          · by_cases b5 : 0 ≤ idxG (seqG r1 N) (fun p => p.2.1 == (gAt r1 N).2.1 && p.2.2 == (gAt r1 N).2.2)
            · exact rs_bad5 hc hN b1 b2 b3 b4 b5
            · refine (hbad ⟨⟨by omega, by omega⟩, fun k hk e => ?_, b4, fun k hk e => ?_⟩).elim
              · rcases q1 with ⟨h, -⟩ | ⟨-, h⟩
                · exact b3 h
                · have := h k hk; simp [e] at this
              · rcases q2 with ⟨h, -⟩ | ⟨-, h⟩
                · exact b5 h
                · have := h k hk; simp [e.1, e.2] at this
          · exact rs_bad4 hc hN b1 b2 b3 b4
    · rw [sitesR_n2 h2]
      have f1 : ¬ a0 < 1 := by omega
      have f2 : a0 > 1073741824 := by omega
      simp (maxSteps := 4000000) (disch := (first | with_reducible rfl | assumption | omega | (simp only [List.length_append, List.length_map, List.length_cons, List.length_nil, List.length_set, List.length_replicate, List.length_take, List.size_toArray]; omega))) [E_RSites, f1, f2]
  · rw [sitesR_n1 h1]
    have f1 : a0 < 1 := by omega
    simp (maxSteps := 4000000) (disch := (first | with_reducible rfl | assumption | omega | (simp only [List.length_append, List.length_map, List.length_cons, List.length_nil, List.length_set, List.length_replicate, List.length_take, List.size_toArray]; omega))) [E_RSites, f1]
theorem sRSites : GoodS (6, RSites) := by
  intro xs r h
  simp only at h
  unfold RSites at h
  split at h
  · obtain ⟨a0, h0, h⟩ := Option.bind_eq_some_iff.1 h
    obtain ⟨r1, h1, h⟩ := Option.bind_eq_some_iff.1 h
    split at h
    · rename_i hc
      cases h
      obtain rfl := unN_eq h0
      obtain rfl := dec_out h1
      exact .inl <| okW_ends (mkQ_ok (alls_cons sMPut alls_nil) (allq_cons qQAt (allq_cons qQSite (allq_cons qQOn allq_nil)))) mixed Try.func6 rfl (by kernel_rfl : Fits Try.prog E_RSites.ref E_RSites.dep Try.f6 = true) (run_RSites _ _ hc)
    · cases h
  · cases h
attribute [simp] RSites
end Go.Proofs.Ytpbaloceljfaoaa.ZRat
