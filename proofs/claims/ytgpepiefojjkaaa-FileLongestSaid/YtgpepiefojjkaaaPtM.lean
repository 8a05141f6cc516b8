/- Each beginning of a mesh's text can be gone on with: plain law, no program. -/
import Derived.Test.YtgpepiefojjkaaaPtK
namespace Go.Proofs.Ytgpepiefojjkaaa.Pt
set_option linter.unusedVariables false
set_option linter.unusedSimpArgs false
/-- A line's words, with their numbers. -/
def lineWs (more : Bool) : List (Int × List Int) := if more = true then [(0, siteW), (1, faceW), (2, endW)] else [(0, endW), (1, faceW)]
theorem cpl_nil (y : List Int) : cpl y [] = 0 := by cases y <;> rfl
theorem line_default (t : List Int) (more : Bool) (a : Nat) (i : Int) (w y : List Int) (hw : (i, w) ∈ lineWs more) (h : t.drop a = w ++ y) : lineS t more a true = (i, a + w.length, true) := by
  cases more
  · simp only [lineWs, Bool.false_eq_true, if_false, List.mem_cons, List.not_mem_nil, or_false, Prod.mk.injEq] at hw
    unfold lineS rwS
    rw [h]
    rcases hw with ⟨rfl, rfl⟩ | ⟨rfl, rfl⟩ <;> simp [wordsS, cpl, cpl_nil, siteW, faceW, endW]
  · simp only [lineWs, if_true, List.mem_cons, List.not_mem_nil, or_false, Prod.mk.injEq] at hw
    unfold lineS rwS
    rw [h]
    rcases hw with ⟨rfl, rfl⟩ | ⟨rfl, rfl⟩ | ⟨rfl, rfl⟩ <;> simp [wordsS, cpl, cpl_nil, siteW, faceW, endW]
theorem line_ok (t : List Int) (more : Bool) (a : Nat) (q : Int) (n : Nat) (h : lineS t more a true = (q, n, true)) : ∃ w, (q, w) ∈ lineWs more ∧ t.drop a = w ++ t.drop n ∧ n = a + w.length := by
  have go : ∀ (i : Int) (w : List Int), (i, w) ∈ lineWs more → cpl (t.drop a) w = w.length → (i, a + w.length, true) = (q, n, true) → ∃ w, (q, w) ∈ lineWs more ∧ t.drop a = w ++ t.drop n ∧ n = a + w.length := by
    intro i w hm hc he
    simp only [Prod.mk.injEq, and_true] at he
    obtain ⟨rfl, rfl⟩ := he
    exact ⟨w, hm, by have := cpl_pre _ _ hc; rwa [List.drop_drop] at this, rfl⟩
  unfold lineS rwS at h
  cases more
  · simp only [Bool.false_eq_true, if_false, if_true, wordsS] at h
    split at h
    · rename_i e; exact go 0 endW (by simp [lineWs]) e h
    · split at h
      · rename_i e; exact go 1 faceW (by simp [lineWs]) e h
      · simp at h
  · simp only [if_true, wordsS] at h
    split at h
    · rename_i e; exact go 0 siteW (by simp [lineWs]) e h
    · split at h
      · rename_i e; exact go 1 faceW (by simp [lineWs]) e h
      · split at h
        · rename_i e; exact go 2 endW (by simp [lineWs]) e h
        · simp at h
theorem take_drop_eq (t t' : List Int) (a n : Nat) (han : a ≤ n) (hn : n ≤ t.length) (h : t'.take n = t.take n) (w : List Int) (hw : t.drop a = w ++ t.drop n) (hl : n = a + w.length) : t'.drop a = w ++ t'.drop n := by
  have e1 : (t'.take n).drop a = (t.take n).drop a := by rw [h]
  have e2 : (t.take n).drop a = w := by
    rw [List.drop_take, hw, List.take_append_of_le_length (by omega), List.take_of_length_le (by omega)]
  have hn' : n ≤ t'.length := by
    have := congrArg List.length h
    rw [List.length_take, List.length_take] at this
    omega
  conv => lhs; rw [← List.take_append_drop n t']
  rw [List.drop_append_of_le_length (by rw [List.length_take]; omega), e1, e2]
theorem line_ext (t t' : List Int) (more : Bool) (a : Nat) (q : Int) (n : Nat) (h : lineS t more a true = (q, n, true)) (ha : a ≤ t.length) (ht : t'.take n = t.take n) : lineS t' more a true = (q, n, true) := by
  obtain ⟨w, h1, h2, h3⟩ := line_ok t more a q n h
  have hle := lineS_le t more a true ha
  rw [h] at hle
  have := line_default t' more a q w (t'.drop n) h1 (take_drop_eq t t' a n (by omega) hle ht w h2 h3)
  rw [this, h3]
theorem line_bad (t : List Int) (more : Bool) (a : Nat) (q : Int) (p : Nat) (h : lineS t more a true = (q, p, false)) (ha : a ≤ t.length) : ∃ i w, (i, w) ∈ lineWs more ∧ (t.drop a).take (p - a) = w.take (p - a) ∧ a ≤ p ∧ p - a < w.length ∧ (p = a → w = endW) := by
  have hl : (t.drop a).length = t.length - a := List.length_drop ..
  have go : ∀ (i : Int) (w : List Int), (i, w) ∈ lineWs more → cpl (t.drop a) w ≠ w.length → p = a + cpl (t.drop a) w → (p = a → w = endW) → ∃ i w, (i, w) ∈ lineWs more ∧ (t.drop a).take (p - a) = w.take (p - a) ∧ a ≤ p ∧ p - a < w.length ∧ (p = a → w = endW) := by
    intro i w hm hc he h0
    have h1 := cpl_le1 (t.drop a) w
    have h2 := cpl_le2 (t.drop a) w
    have e : p - a = cpl (t.drop a) w := by omega
    exact ⟨i, w, hm, by rw [e]; exact (cpl_ge _ _ _ h1 h2).1 (Nat.le_refl _), by omega, by omega, h0⟩
  unfold lineS rwS at h
  cases more
  · simp only [Bool.false_eq_true, if_false, if_true, wordsS] at h
    split at h
    · simp at h
    · rename_i e1
      split at h
      · simp at h
      · rename_i e2
        simp only [Prod.mk.injEq, and_true] at h
        rcases Nat.lt_or_ge (cpl (t.drop a) endW) (cpl (t.drop a) faceW) with g | g
        · exact go 1 faceW (by simp [lineWs]) e2 (by omega) (fun e => by omega)
        · exact go 0 endW (by simp [lineWs]) e1 (by omega) (fun _ => rfl)
  · simp only [if_true, wordsS] at h
    split at h
    · simp at h
    · rename_i e1
      split at h
      · simp at h
      · rename_i e2
        split at h
        · simp at h
        · rename_i e3
          simp only [Prod.mk.injEq, and_true] at h
          rcases Nat.lt_or_ge (cpl (t.drop a) endW) (max (cpl (t.drop a) siteW) (cpl (t.drop a) faceW)) with g | g
          · rcases Nat.lt_or_ge (cpl (t.drop a) siteW) (cpl (t.drop a) faceW) with g2 | g2
            · exact go 1 faceW (by simp [lineWs]) e2 (by omega) (fun e => by omega)
            · exact go 0 siteW (by simp [lineWs]) e1 (by omega) (fun e => by omega)
          · exact go 2 endW (by simp [lineWs]) e3 (by omega) (fun _ => rfl)
/-- How far it goes from a line's beginning on, and whether all was well. -/
def goF (t : List Int) : Nat → Bool → Nat → Nat × Bool
  | 0, more, a => (lineS t more a true).2
  | k + 1, more, a =>
    if more = true ∧ (lineS t more a true).1 = 0 then
      (if (chainS t (threeL false [10]) [] (lineS t more a true).2.1 (lineS t more a true).2.2).2.2 = true then goF t k true (chainS t (threeL false [10]) [] (lineS t more a true).2.1 (lineS t more a true).2.2).2.1 else (chainS t (threeL false [10]) [] (lineS t more a true).2.1 (lineS t more a true).2.2).2)
    else if (lineS t more a true).1 = 1 then
      (if (chainS t nineL [] (lineS t more a true).2.1 (lineS t more a true).2.2).2.2 = true then goF t k false (chainS t nineL [] (lineS t more a true).2.1 (lineS t more a true).2.2).2.1 else (chainS t nineL [] (lineS t more a true).2.1 (lineS t more a true).2.2).2)
    else (lineS t more a true).2
section
variable {α β : Type} (mk : List Int → α) (mkf : List Int → β)
theorem lineS_false (t : List Int) (more : Bool) (a : Nat) : lineS t more a false = (-1, a, false) := by
  unfold lineS rwS
  cases more <;> rfl
theorem faces_go (t : List Int) (k : Nat) (acc : List β) (a : Nat) : (facesS mkf t k acc (lineS t false a true).1 (lineS t false a true).2.1 (lineS t false a true).2.2).2 = goF t k false a := by
  induction k generalizing acc a with
  | zero => rfl
  | succ k ih =>
    simp only [facesS, goF]
    rw [if_neg (show ¬ (false = true ∧ (lineS t false a true).1 = 0) from fun e => Bool.false_ne_true e.1)]
    by_cases e : (lineS t false a true).1 = 1
    · rw [if_pos e, if_pos e]
      generalize chainS t nineL [] (lineS t false a true).2.1 (lineS t false a true).2.2 = c
      obtain ⟨c1, c2, c3⟩ := c
      simp only
      cases c3
      · rw [if_neg Bool.false_ne_true, lineS_false, facesS_stop mkf _ _ _ _ _ _ (by show (-1 : Int) ≠ 1; decide)]
      · rw [if_pos rfl]
        exact ih _ _
    · rw [if_neg e, if_neg e]
theorem sites_go (t : List Int) (k : Nat) (acc : List α) (a : Nat) : (sitesS mk mkf t k acc (lineS t true a true).1 (lineS t true a true).2.1 (lineS t true a true).2.2).2.2 = goF t k true a := by
  induction k generalizing acc a with
  | zero => rfl
  | succ k ih =>
    simp only [sitesS, goF]
    by_cases e0 : (lineS t true a true).1 = 0
    · rw [if_pos e0, if_pos ⟨trivial, e0⟩]
      generalize chainS t (threeL false [10]) [] (lineS t true a true).2.1 (lineS t true a true).2.2 = c
      obtain ⟨c1, c2, c3⟩ := c
      simp only
      cases c3
      · rw [if_neg Bool.false_ne_true, lineS_false]
        cases k with
        | zero => rfl
        | succ k =>
          simp only [sitesS]
          rw [if_neg (by decide), facesS_stop mkf _ _ _ _ _ _ (by show (-1 : Int) ≠ 1; decide)]
      · rw [if_pos rfl]
        exact ih _ _
    · rw [if_neg e0, if_neg (fun e => e0 e.2)]
      simp only [facesS]
      by_cases e : (lineS t true a true).1 = 1
      · rw [if_pos e, if_pos e]
        generalize chainS t nineL [] (lineS t true a true).2.1 (lineS t true a true).2.2 = c
        obtain ⟨c1, c2, c3⟩ := c
        simp only
        cases c3
        · rw [if_neg Bool.false_ne_true, lineS_false, facesS_stop mkf _ _ _ _ _ _ (by show (-1 : Int) ≠ 1; decide)]
        · rw [if_pos rfl]
          exact faces_go mkf t k _ _
      · rw [if_neg e, if_neg e]
end
/-- What a beginning is gone on with. -/
def CL : List (List Int) := [[], [109, 101, 115, 104, 32, 49, 32, 49, 32, 49, 10, 101, 110, 100, 10], [101, 115, 104, 32, 49, 32, 49, 32, 49, 10, 101, 110, 100, 10], [115, 104, 32, 49, 32, 49, 32, 49, 10, 101, 110, 100, 10], [104, 32, 49, 32, 49, 32, 49, 10, 101, 110, 100, 10], [32, 49, 32, 49, 32, 49, 10, 101, 110, 100, 10], [49, 32, 49, 32, 49, 10, 101, 110, 100, 10], [32, 49, 32, 49, 10, 101, 110, 100, 10], [49, 32, 49, 10, 101, 110, 100, 10], [32, 49, 10, 101, 110, 100, 10], [49, 10, 101, 110, 100, 10], [10, 101, 110, 100, 10], [101, 110, 100, 10], [110, 100, 10], [100, 10], [10],
  [105, 116, 101, 32, 49, 32, 49, 32, 49, 10, 101, 110, 100, 10], [116, 101, 32, 49, 32, 49, 32, 49, 10, 101, 110, 100, 10], [101, 32, 49, 32, 49, 32, 49, 10, 101, 110, 100, 10], [97, 99, 101, 32, 49, 32, 49, 32, 49, 32, 49, 32, 49, 32, 49, 32, 49, 32, 49, 32, 49, 10, 101, 110, 100, 10], [99, 101, 32, 49, 32, 49, 32, 49, 32, 49, 32, 49, 32, 49, 32, 49, 32, 49, 32, 49, 10, 101, 110, 100, 10], [101, 32, 49, 32, 49, 32, 49, 32, 49, 32, 49, 32, 49, 32, 49, 32, 49, 32, 49, 10, 101, 110, 100, 10],
  [32, 49, 32, 49, 32, 49, 32, 49, 32, 49, 32, 49, 32, 49, 32, 49, 32, 49, 10, 101, 110, 100, 10], [49, 32, 49, 32, 49, 32, 49, 32, 49, 32, 49, 32, 49, 32, 49, 32, 49, 10, 101, 110, 100, 10], [32, 49, 32, 49, 32, 49, 32, 49, 32, 49, 32, 49, 32, 49, 32, 49, 10, 101, 110, 100, 10], [49, 32, 49, 32, 49, 32, 49, 32, 49, 32, 49, 32, 49, 32, 49, 10, 101, 110, 100, 10], [32, 49, 32, 49, 32, 49, 32, 49, 32, 49, 32, 49, 32, 49, 10, 101, 110, 100, 10], [49, 32, 49, 32, 49, 32, 49, 32, 49, 32, 49, 32, 49, 10, 101, 110, 100, 10], [32, 49, 32, 49, 32, 49, 32, 49, 32, 49, 32, 49, 10, 101, 110, 100, 10], [49, 32, 49, 32, 49, 32, 49, 32, 49, 32, 49, 10, 101, 110, 100, 10], [32, 49, 32, 49, 32, 49, 32, 49, 32, 49, 10, 101, 110, 100, 10], [49, 32, 49, 32, 49, 32, 49, 32, 49, 10, 101, 110, 100, 10], [32, 49, 32, 49, 32, 49, 32, 49, 10, 101, 110, 100, 10], [49, 32, 49, 32, 49, 32, 49, 10, 101, 110, 100, 10]]
theorem CL_three : ∀ c0 ∈ compL (threeL false [10]), c0 ++ endW ∈ CL := by decide
theorem CL_nine : ∀ c0 ∈ compL nineL, c0 ++ endW ∈ CL := by decide +kernel
theorem CL_mesh : ∀ f, f < 5 → meshW.drop f ++ (txtL (threeL false [10]) ++ endW) ∈ CL := by decide
theorem CL_site : ∀ f, f < 5 → 0 < f → siteW.drop f ++ (txtL (threeL false [10]) ++ endW) ∈ CL := by decide
theorem CL_face : ∀ f, f < 5 → 0 < f → faceW.drop f ++ (txtL nineL ++ endW) ∈ CL := by decide
theorem CL_end : ∀ f, f < 4 → endW.drop f ∈ CL := by decide
/-- The end's line, and nothing behind it. -/
theorem go_end (t : List Int) (k : Nat) (more : Bool) (a : Nat) (ha : a ≤ t.length) (h : t.drop a = endW) : goF t k more a = (t.length, true) := by
  have hl : t.length = a + endW.length := by
    have := congrArg List.length h
    rw [List.length_drop] at this
    omega
  have hq : lineS t more a true = (if more = true then 2 else 0, a + endW.length, true) := by
    cases more
    · exact line_default t false a 0 endW [] (by simp [lineWs]) (by rw [h, List.append_nil])
    · exact line_default t true a 2 endW [] (by simp [lineWs]) (by rw [h, List.append_nil])
  cases k with
  | zero => simp only [goF]; rw [hq, hl]
  | succ k =>
    simp only [goF]
    rw [hq, hl]
    cases more
    · simp
    · simp
theorem go_le (t : List Int) (k : Nat) (more : Bool) (a : Nat) (ha : a ≤ t.length) : a ≤ (goF t k more a).1 ∧ (goF t k more a).1 ≤ t.length := by
  induction k generalizing more a with
  | zero => exact ⟨lineS_ge _ _ _ _, lineS_le _ _ _ _ ha⟩
  | succ k ih =>
    have g1 := lineS_ge t more a true
    have g2 := lineS_le t more a true ha
    simp only [goF]
    generalize lineS t more a true = q at *
    have h3 := chainS_ge t (threeL false [10]) [] q.2.1 q.2.2
    have h4 := chainS_le t (threeL false [10]) [] q.2.1 q.2.2 g2
    have h5 := chainS_ge t nineL [] q.2.1 q.2.2
    have h6 := chainS_le t nineL [] q.2.1 q.2.2 g2
    split
    · split
      · have := ih true _ h4; exact ⟨by omega, by omega⟩
      · exact ⟨by omega, by omega⟩
    · split
      · split
        · have := ih false _ h6; exact ⟨by omega, by omega⟩
        · exact ⟨by omega, by omega⟩
      · exact ⟨by omega, by omega⟩
theorem drop_two (t : List Int) (a p : Nat) (w y : List Int) (ha : a ≤ p) (hp : p ≤ t.length) (hw : p - a ≤ w.length) (h : (t.drop a).take (p - a) = w.take (p - a)) : (t.take p ++ (w.drop (p - a) ++ y)).drop a = w ++ y := by
  rw [List.drop_append_of_le_length (by rw [List.length_take]; omega), List.drop_take, h, ← List.append_assoc, List.take_append_drop]
theorem go_comp (t : List Int) (k : Nat) : ∀ (more : Bool) (a p : Nat), a ≤ t.length → t.length < a + k → goF t k more a = (p, false) → ∃ c ∈ CL, ∀ k', (t.take p ++ c).length < a + k' → goF (t.take p ++ c) k' more a = ((t.take p ++ c).length, true) := by
  induction k with
  | zero => intro more a p h1 h2; omega
  | succ k ih =>
    intro more a p h1 h2 h
    have hpb := go_le t (k + 1) more a h1
    rw [h] at hpb
    simp only at hpb
    have g2 := lineS_le t more a true h1
    have g1 := lineS_ge t more a true
    have lenT : (t.take p).length = p := by rw [List.length_take]; omega
    simp only [goF] at h
    rcases hq : lineS t more a true with ⟨q, n, ok⟩
    rw [hq] at h g1 g2
    simp only at h g1 g2
    -- behind a line's word, numbers
    have row : ∀ (L : List (Bool × List Int)) (m2 : Bool), okL L → (∀ c0 ∈ compL L, c0 ++ endW ∈ CL) → ok = true → (a < n) →
        (∀ (t' : List Int) (k' : Nat), lineS t' more a true = (q, n, true) → goF t' (k' + 1) more a = if (chainS t' L [] n true).2.2 = true then goF t' k' m2 (chainS t' L [] n true).2.1 else (chainS t' L [] n true).2) →
        (if (chainS t L [] n true).2.2 = true then goF t k m2 (chainS t L [] n true).2.1 else (chainS t L [] n true).2) = (p, false) →
        ∃ c ∈ CL, ∀ k', (t.take p ++ c).length < a + k' → goF (t.take p ++ c) k' more a = ((t.take p ++ c).length, true) := by
      intro L m2 hL hC hok han hst hr
      subst hok
      have e1 := chainS_ge t L [] n true
      have e2 := chainS_le t L [] n true g2
      rcases hc : (chainS t L [] n true).2 with ⟨m, ok2⟩
      rw [hc] at hr e1 e2
      simp only at hr e1 e2
      cases ok2
      · rw [if_neg Bool.false_ne_true] at hr
        obtain rfl : m = p := by injection hr
        obtain ⟨c0, hm0, hc0⟩ := chain_comp t L hL [] n m hc g2
        refine ⟨c0 ++ endW, hC c0 hm0, fun k' hk' => ?_⟩
        have hlen : (t.take m ++ (c0 ++ endW)).length = m + c0.length + 4 := by simp [endW]; omega
        obtain ⟨k', rfl⟩ : ∃ j, k' = j + 1 := ⟨k' - 1, by omega⟩
        have hl := line_ext t (t.take m ++ (c0 ++ endW)) more a q n hq h1 (by rw [List.take_append_of_le_length (by omega), List.take_take, Nat.min_eq_left e1])
        rw [hst _ k' hl, hc0 endW []]
        simp only
        rw [if_pos trivial]
        refine go_end _ k' m2 _ (by omega) ?_
        rw [show m + c0.length = (t.take m ++ c0).length from by rw [List.length_append, lenT], ← List.append_assoc, List.drop_left]
      · rw [if_pos rfl] at hr
        obtain ⟨c, hm, hcc⟩ := ih m2 m p e2 (by omega) hr
        have hmp := go_le t k m2 m e2
        rw [hr] at hmp
        refine ⟨c, hm, fun k' hk' => ?_⟩
        have hlen : (t.take p ++ c).length = p + c.length := by rw [List.length_append, lenT]
        obtain ⟨k', rfl⟩ : ∃ j, k' = j + 1 := ⟨k' - 1, by omega⟩
        have hl := line_ext t (t.take p ++ c) more a q n hq h1 (by rw [List.take_append_of_le_length (by omega), List.take_take, Nat.min_eq_left (by omega)])
        have hx := chain_ext t (t.take p ++ c) L hL [] [] n m hc g2 (by rw [List.take_append_of_le_length (by omega), List.take_take, Nat.min_eq_left (by omega)])
        rw [hst _ k' hl, hx]
        simp only
        rw [if_pos trivial]
        exact hcc k' (by omega)
    cases ok
    · -- no word stands
      have hp : p = n := by
        obtain ⟨w, _⟩ := line_bad t more a q n hq h1
        have e3 := chainS_false t (threeL false [10]) [] n
        have e9 := chainS_false t nineL [] n
        rw [show (chainS t (threeL false [10]) [] n false).2.2 = false from by rw [e3], e3, show (chainS t nineL [] n false).2.2 = false from by rw [e9], e9] at h
        simp only [Bool.false_eq_true, if_false, ite_self, Prod.mk.injEq, and_true] at h
        exact h.symm
      subst hp
      obtain ⟨i, w, hm, ht, hap, hlt, h0⟩ := line_bad t more a q p hq h1
      have key : ∀ (y : List Int), (∀ (t' : List Int) (k' : Nat), lineS t' more a true = (i, a + w.length, true) → t'.drop (a + w.length) = y → a + w.length ≤ t'.length → t'.length < a + (k' + 1) → goF t' (k' + 1) more a = (t'.length, true)) → w.drop (p - a) ++ y ∈ CL → ∃ c ∈ CL, ∀ k', (t.take p ++ c).length < a + k' → goF (t.take p ++ c) k' more a = ((t.take p ++ c).length, true) := by
        intro y hy hmem
        refine ⟨_, hmem, fun k' hk' => ?_⟩
        have hd := drop_two t a p w y hap hpb.2 (by omega) ht
        have hlen : (t.take p ++ (w.drop (p - a) ++ y)).length = a + w.length + y.length := by
          rw [List.length_append, lenT, List.length_append, List.length_drop]
          omega
        obtain ⟨k', rfl⟩ : ∃ j, k' = j + 1 := ⟨k' - 1, by omega⟩
        exact hy _ k' (line_default _ more a i w y hm hd) (by rw [← List.drop_drop, hd, List.drop_left]) (by omega) hk'
      have numbers : ∀ (L : List (Bool × List Int)) (m2 : Bool), okL L → (∀ (t' : List Int) (k' : Nat), lineS t' more a true = (i, a + w.length, true) → goF t' (k' + 1) more a = if (chainS t' L [] (a + w.length) true).2.2 = true then goF t' k' m2 (chainS t' L [] (a + w.length) true).2.1 else (chainS t' L [] (a + w.length) true).2) →
          (∀ (t' : List Int) (k' : Nat), lineS t' more a true = (i, a + w.length, true) → t'.drop (a + w.length) = txtL L ++ endW → a + w.length ≤ t'.length → t'.length < a + (k' + 1) → goF t' (k' + 1) more a = (t'.length, true)) := by
        intro L m2 hL hst t' k' hl hd hle _
        have := chain_default t' L hL [] (a + w.length) endW hd
        rw [hst t' k' hl, this]
        simp only
        rw [if_pos trivial]
        have hlen := congrArg List.length hd
        rw [List.length_drop, List.length_append] at hlen
        exact go_end t' k' m2 _ (by omega) (by rw [← List.drop_drop, hd, List.drop_left])
      cases more
      · simp only [lineWs, Bool.false_eq_true, if_false, List.mem_cons, List.not_mem_nil, or_false, Prod.mk.injEq] at hm
        rcases hm with ⟨rfl, rfl⟩ | ⟨rfl, rfl⟩
        · refine key [] (fun t' k' hl hd hle _ => ?_) (by rw [List.append_nil]; exact CL_end _ hlt)
          have hlen := congrArg List.length hd
          rw [List.length_drop] at hlen
          simp only [goF]
          rw [hl]
          simp at hlen ⊢
          omega
        · refine key _ (numbers nineL false okNine (fun t' k' hl => ?_)) (CL_face _ hlt ((Nat.eq_zero_or_pos (p - a)).elim (fun e => absurd (h0 (by omega)) (by decide)) id))
          simp only [goF]
          rw [hl]
          rfl
      · simp only [lineWs, if_true, List.mem_cons, List.not_mem_nil, or_false, Prod.mk.injEq] at hm
        rcases hm with ⟨rfl, rfl⟩ | ⟨rfl, rfl⟩ | ⟨rfl, rfl⟩
        · refine key _ (numbers (threeL false [10]) true (okThree false).2 (fun t' k' hl => ?_)) (CL_site _ hlt ((Nat.eq_zero_or_pos (p - a)).elim (fun e => absurd (h0 (by omega)) (by decide)) id))
          simp only [goF]
          rw [hl]
          rfl
        · refine key _ (numbers nineL false okNine (fun t' k' hl => ?_)) (CL_face _ hlt ((Nat.eq_zero_or_pos (p - a)).elim (fun e => absurd (h0 (by omega)) (by decide)) id))
          simp only [goF]
          rw [hl]
          rfl
        · refine key [] (fun t' k' hl hd hle _ => ?_) (by rw [List.append_nil]; exact CL_end _ hlt)
          have hlen := congrArg List.length hd
          rw [List.length_drop] at hlen
          simp only [goF]
          rw [hl]
          simp at hlen ⊢
          omega
    · by_cases c0 : more = true ∧ q = 0
      · rw [if_pos c0] at h
        have han : a < n := by
          obtain ⟨w, hw, _, hn⟩ := line_ok t more a q n hq
          have : w.length ≠ 0 := by
            obtain ⟨rfl, rfl⟩ := c0
            simp only [lineWs, if_true, List.mem_cons, List.not_mem_nil, or_false, Prod.mk.injEq] at hw
            rcases hw with ⟨_, rfl⟩ | ⟨_, rfl⟩ | ⟨_, rfl⟩ <;> decide
          omega
        refine row (threeL false [10]) true (okThree false).2 CL_three rfl han (fun t' k' hl => ?_) h
        simp only [goF]
        rw [hl, if_pos c0]
      · rw [if_neg c0] at h
        by_cases c1 : q = 1
        · rw [if_pos c1] at h
          have han : a < n := by
            obtain ⟨w, hw, _, hn⟩ := line_ok t more a q n hq
            have : w.length ≠ 0 := by
              cases more
              · simp only [lineWs, Bool.false_eq_true, if_false, List.mem_cons, List.not_mem_nil, or_false, Prod.mk.injEq] at hw
                rcases hw with ⟨_, rfl⟩ | ⟨_, rfl⟩ <;> decide
              · simp only [lineWs, if_true, List.mem_cons, List.not_mem_nil, or_false, Prod.mk.injEq] at hw
                rcases hw with ⟨_, rfl⟩ | ⟨_, rfl⟩ | ⟨_, rfl⟩ <;> decide
            omega
          refine row nineL false okNine CL_nine rfl han (fun t' k' hl => ?_) h
          simp only [goF]
          rw [hl]
          simp only
          rw [if_neg c0, if_pos c1]
        · rw [if_neg c1] at h
          cases h
end Go.Proofs.Ytgpepiefojjkaaa.Pt
