import Derived.Test.YtpbaloceljfaoaaLt
import Derived.Test.YtpbaloceljfaoaaXPsE
import Derived.Test.YtpbaloceljfaoaaKr
set_option linter.unusedVariables false
set_option linter.unusedSimpArgs false
namespace Go.Proofs.Ytpbaloceljfaoaa.ZRat
open Go.RowKit Go.Proofs.Ytpbaloceljfaoaa.Wd
open Go Go.Proofs.Ytpbaloceljfaoaa.Ab Go.Proofs
set_option linter.unusedSimpArgs false
set_option linter.unusedVariables false
set_option maxHeartbeats 8000000
set_option maxRecDepth 100000
def lenT (n : Int) : Int := [0, 1, 2, 2, 3, 3, 3, 3, 4, 4, 4].getD n.toNat 0
/-- Where a site goes. -/
def insJ (s : List G3) (x : G3) : Nat := s.findIdx fun p => decide (x.1 < p.1)
theorem insJ_le (s : List G3) (x : G3) : insJ s x ≤ s.length := List.findIdx_le_length
theorem putG_ins (s : List G3) (x : G3) : putG s x = s.take (insJ s x) ++ x :: s.drop (insJ s x) := by
  induction s with
  | nil => rfl
  | cons a s ih =>
    simp only [putG, insJ, List.findIdx_cons]
    by_cases h : x.1 < a.1
    · simp [h]
    · simp only [h, if_false, decide_false, cond_false]
      rw [ih]
      rfl
theorem insJ_lt {s : List G3} {x : G3} {j : Nat} (h : j < insJ s x) : ¬ x.1 < (gAt s j).1 := by
  have h1 : j < s.length := Nat.lt_of_lt_of_le h (insJ_le s x)
  have h2 := List.not_of_lt_findIdx (p := fun (p : G3) => decide (x.1 < p.1)) (xs := s) (i := j) h
  have e := gAt_get h1
  rw [List.getElem?_eq_getElem h1] at e
  rw [← Option.some.inj e]
  simpa using h2
def srtG (s : List G3) : Prop := ∀ a b, a < b → b < s.length → (gAt s a).1 ≤ (gAt s b).1
theorem insJ_ge {s : List G3} {x : G3} (hs : srtG s) {j : Nat} (h : insJ s x ≤ j) (hj : j < s.length) : x.1 < (gAt s j).1 := by
  have h1 : insJ s x < s.length := by omega
  have h2 := List.findIdx_getElem (p := fun (p : G3) => decide (x.1 < p.1)) (xs := s) (w := h1)
  have e := gAt_get h1
  rw [List.getElem?_eq_getElem h1] at e
  have h3 : x.1 < (gAt s (insJ s x)).1 := by rw [← Option.some.inj e]; exact of_decide_eq_true h2
  rcases Nat.lt_or_ge (insJ s x) j with q | q
  · exact Int.lt_of_lt_of_le h3 (hs _ _ q hj)
  · rw [show j = insJ s x by omega]; exact h3
theorem gAt_app (a b : List G3) (j : Nat) : gAt (a ++ b) j = if j < a.length then gAt a j else gAt b (j - a.length) := by
  unfold gAt
  simp only [List.getD_eq_getElem?_getD]
  split
  · rename_i h; rw [List.getElem?_append_left h]
  · rename_i h; rw [List.getElem?_append_right (by omega)]
theorem gAt_cons (x : G3) (b : List G3) (j : Nat) : gAt (x :: b) j = if j = 0 then x else gAt b (j - 1) := by
  unfold gAt
  cases j with
  | zero => rfl
  | succ j => simp [List.getD_eq_getElem?_getD]
theorem gAt_take {s : List G3} {k j : Nat} (h : j < k) : gAt (s.take k) j = gAt s j := by
  unfold gAt
  simp only [List.getD_eq_getElem?_getD, List.getElem?_take, if_pos h]
theorem gAt_drop (s : List G3) (k j : Nat) : gAt (s.drop k) j = gAt s (k + j) := by
  unfold gAt
  simp only [List.getD_eq_getElem?_getD, List.getElem?_drop]
theorem srt_put {s : List G3} {x : G3} (hs : srtG s) : srtG (putG s x) := by
  intro a b hab hb
  have hl := insJ_le s x
  rw [putG_len] at hb
  rw [putG_ins]
  have tl : (s.take (insJ s x)).length = insJ s x := by rw [List.length_take]; omega
  rw [gAt_app, gAt_app, tl]
  by_cases h1 : b < insJ s x
  · rw [if_pos (by omega), if_pos h1, gAt_take (by omega), gAt_take h1]
    exact hs a b hab (by omega)
  · rw [if_neg h1]
    by_cases h2 : a < insJ s x
    · rw [if_pos h2, gAt_take h2, gAt_cons]
      split
      · have := insJ_lt h2; omega
      · rw [gAt_drop]; exact hs _ _ (by omega) (by omega)
    · rw [if_neg h2, gAt_cons, gAt_cons, if_neg (by omega : ¬ b - insJ s x = 0)]
      split
      · rw [gAt_drop]
        exact Int.le_of_lt (insJ_ge hs (by omega) (by omega))
      · rw [gAt_drop, gAt_drop]; exact hs _ _ (by omega) (by omega)
theorem srt_seq (l : List G3) : ∀ i, i ≤ l.length → srtG (seqG l i)
  | 0, _ => fun a b _ hb => by simp [seqG] at hb
  | i + 1, h => by rw [seqG_succ (by omega)]; exact srt_put (srt_seq l i (by omega))
/-- The ids are all small. -/
def smallG (l : List G3) : Prop := ∀ p ∈ l, 0 ≤ p.1 ∧ p.1 < 16777216
theorem small_at {l : List G3} (h : smallG l) {i : Nat} (hi : i < l.length) : 0 ≤ (gAt l i).1 ∧ (gAt l i).1 < 16777216 := h _ (List.mem_of_getElem? (gAt_get hi))
theorem small_seq {l : List G3} (h : smallG l) (i : Nat) (hi : i ≤ l.length) : smallG (seqG l i) := fun p hp => by
  obtain ⟨k, hk, rfl⟩ := (seqG_mem l p i hi).1 hp
  exact small_at h (by omega)
noncomputable def MCmp : List AV → Option AV
  | [x0, x1] => (agg3 x0).bind fun ⟨x0_, y0_, z0_⟩ => (agg3 x1).bind fun ⟨x1_, y1_, z1_⟩ => some (.int .i64 (wrap64 (x0_ - x1_)))
  | _ => none
noncomputable def E_MCmp : Env := mkQ [] [] [] []
theorem run_MCmp (x0_ y0_ z0_ : Int) (x1_ y1_ z1_ : Int) : AEnds E_MCmp (finW Try.prog Try.f10.results) 0 [.code (Try.f10.body.getD .skip)] (startA Try.f10 [.agg [.int .i64 x0_, .int .i64 y0_, .int .i64 z0_], .agg [.int .i64 x1_, .int .i64 y1_, .int .i64 z1_]] [] []) (.int .i64 (wrap64 (x0_ - x1_))) := by
  simp only [Try.f10, Option.getD_some, startA]
  simp (maxSteps := 4000000) (disch := (first | with_reducible rfl | assumption | omega | (simp only [List.length_append, List.length_map, List.length_cons, List.length_nil, List.length_set, List.length_replicate, List.length_take, List.size_toArray]; omega))) [E_MCmp]
theorem sMCmp : GoodS (10, MCmp) := by
  intro xs r h
  simp only at h
  unfold MCmp at h
  split at h
  · obtain ⟨⟨x0_, y0_, z0_⟩, h0, h⟩ := Option.bind_eq_some_iff.1 h
    obtain ⟨⟨x1_, y1_, z1_⟩, h1, h⟩ := Option.bind_eq_some_iff.1 h
    try dsimp only at h
    cases h
    obtain rfl := agg3_eq h0
    obtain rfl := agg3_eq h1
    exact .inl <| okW_ends (mkQ_ok alls_nil allq_nil) mixed Try.func10 rfl (by kernel_rfl : Fits Try.prog E_MCmp.ref E_MCmp.dep Try.f10 = true) (run_MCmp _ _ _ _ _ _)
  · cases h
attribute [simp] MCmp
end Go.Proofs.Ytpbaloceljfaoaa.ZRat
