/- Readers of texts, told of bytes: plain law, no program. -/
namespace Go.Proofs.YtmfmojldebhboaaDoor.Pt

def cpl : List Int → List Int → Nat
  | x :: xs, y :: ys => if x = y then cpl xs ys + 1 else 0
  | [], _ => 0
  | _ :: _, [] => 0
theorem cpl_le1 (t w : List Int) : cpl t w ≤ t.length := by
  induction t generalizing w with
  | nil => cases w <;> simp [cpl]
  | cons x xs ih =>
    cases w with
    | nil => simp [cpl]
    | cons y ys =>
      simp only [cpl]
      split
      · have := ih ys; simp; omega
      · simp
theorem cpl_le2 (t w : List Int) : cpl t w ≤ w.length := by
  induction t generalizing w with
  | nil => cases w <;> simp [cpl]
  | cons x xs ih =>
    cases w with
    | nil => simp [cpl]
    | cons y ys =>
      simp only [cpl]
      split
      · have := ih ys; simp; omega
      · simp
theorem cpl_take (t w : List Int) (m : Nat) : cpl (t.take m) w = min m (cpl t w) := by
  induction t generalizing w m with
  | nil => cases w <;> simp [cpl]
  | cons x xs ih =>
    cases m with
    | zero => cases w <;> simp [cpl]
    | succ m =>
      cases w with
      | nil => simp [cpl]
      | cons y ys =>
        simp only [List.take_succ_cons, cpl]
        split
        · rw [ih]; omega
        · simp
/-- Where the two differ. -/
theorem cpl_ne (t w : List Int) (h1 : cpl t w < t.length) (h2 : cpl t w < w.length) : t.getD (cpl t w) 0 ≠ w.getD (cpl t w) 0 := by
  induction t generalizing w with
  | nil => simp at h1
  | cons x xs ih =>
    cases w with
    | nil => simp [cpl] at h2
    | cons y ys =>
      simp only [cpl] at h1 h2 ⊢
      split at h1
      · rename_i e
        simp only [e, if_true, List.length_cons] at h1 h2 ⊢
        have := ih ys (by omega) (by omega)
        simpa using this
      · rename_i e
        simp [e]
theorem cpl_eq (t w : List Int) (j : Nat) (h : j < cpl t w) : t.getD j 0 = w.getD j 0 := by
  induction t generalizing w j with
  | nil => cases w <;> simp [cpl] at h
  | cons x xs ih =>
    cases w with
    | nil => simp [cpl] at h
    | cons y ys =>
      simp only [cpl] at h
      split at h
      · rename_i e
        cases j with
        | zero => simpa using e
        | succ j =>
          have := ih ys j (by omega)
          simpa using this
      · omega
theorem cpl_ge (t w : List Int) (n : Nat) (h1 : n ≤ t.length) (h2 : n ≤ w.length) : n ≤ cpl t w ↔ t.take n = w.take n := by
  induction t generalizing w n with
  | nil => simp at h1; subst h1; simp
  | cons x xs ih =>
    cases n with
    | zero => simp
    | succ n =>
      cases w with
      | nil => simp at h2
      | cons y ys =>
        simp only [cpl, List.take_succ_cons, List.cons.injEq]
        simp only [List.length_cons] at h1 h2
        split
        · rename_i e
          have := ih ys n (by omega) (by omega)
          simp only [e, true_and, ← this]
          omega
        · rename_i e
          simp [e]
/-- Which word stands at the beginning. -/
def wordsS (t : List Int) : List (List Int) → Int → Nat → Int × Nat × Bool
  | [], _, far => (-1, far, false)
  | w :: ws, i, far => if cpl t w = w.length then (i, w.length, true) else wordsS t ws (i + 1) (max far (cpl t w))
theorem wordsS_le (t : List Int) (ws : List (List Int)) (i : Int) (far : Nat) (h : far ≤ t.length) : (wordsS t ws i far).2.1 ≤ t.length := by
  induction ws generalizing i far with
  | nil => exact h
  | cons w ws ih =>
    simp only [wordsS]
    have := cpl_le1 t w
    split
    · simp; omega
    · exact ih _ _ (by omega)
theorem wordsS_far (t : List Int) (ws : List (List Int)) (i : Int) (far : Nat) (h : (wordsS t ws i far).2.2 = false) : far ≤ (wordsS t ws i far).2.1 := by
  induction ws generalizing i far with
  | nil => exact Nat.le_refl _
  | cons w ws ih =>
    simp only [wordsS] at h ⊢
    split
    · rename_i e; simp [e] at h
    · rename_i e
      rw [if_neg e] at h
      have := ih _ _ h
      omega
theorem wordsS_any (t : List Int) (ws : List (List Int)) (i : Int) (far far' : Nat) (h : (wordsS t ws i far).2.2 = true) : wordsS t ws i far' = wordsS t ws i far := by
  induction ws generalizing i far far' with
  | nil => cases h
  | cons w ws ih =>
    simp only [wordsS] at h ⊢
    by_cases e : cpl t w = w.length
    · rw [if_pos e, if_pos e]
    · rw [if_neg e] at h
      rw [if_neg e, if_neg e]
      exact ih _ _ _ h
theorem wordsS_take (t : List Int) (ws : List (List Int)) (i : Int) (far m : Nat) (h : (wordsS t ws i far).2.1 ≤ m) : wordsS (t.take m) ws i far = wordsS t ws i far := by
  induction ws generalizing i far with
  | nil => rfl
  | cons w ws ih =>
    simp only [wordsS] at h ⊢
    have h2 := cpl_le2 t w
    rw [cpl_take]
    by_cases e : cpl t w = w.length
    · rw [if_pos e] at h ⊢
      simp only at h
      rw [if_pos (by omega)]
    · rw [if_neg e] at h ⊢
      rw [if_neg (by omega)]
      rcases hb : (wordsS t ws (i + 1) (max far (cpl t w))).2.2 with _ | _
      · have := wordsS_far _ _ _ _ hb
        rw [Nat.min_eq_right (by omega)]
        exact ih _ _ h
      · have e1 := wordsS_any t ws (i + 1) (max far (cpl t w)) (max far (min m (cpl t w))) hb
        rw [ih _ _ (by rw [e1]; exact h), e1]
/-- A place in a text that is cut. -/
theorem drop_cut (t : List Int) (at_ m : Nat) : (t.take m).drop at_ = (t.drop at_).take (m - at_) := by
  rw [List.drop_take]
def digB (c : Int) : Bool := decide (48 ≤ c) && decide (c ≤ 57)
def stepN (n c : Int) : Int := if n > (4611686018427387904 - (c - 48)) / 10 then 4611686018427387904 else 10 * n + (c - 48)
def runS : List Int → Int → Int × Nat
  | [], n => (n, 0)
  | c :: cs, n => if digB c = true then ((runS cs (stepN n c)).1, (runS cs (stepN n c)).2 + 1) else (n, 0)
/-- The number at the beginning, behind its sign. -/
def numU (neg : Bool) : List Int → Int × Nat × Bool
  | [] => (0, 0, false)
  | c :: cs => if digB c = false ∨ (neg = true ∧ c = 48) then (0, 0, false) else if c = 48 then (0, 1, true) else (if neg = true then -(runS (c :: cs) 0).1 else (runS (c :: cs) 0).1, (runS (c :: cs) 0).2, true)
/-- The number at the beginning. -/
def numS (b : Bool) : List Int → Int × Nat × Bool
  | [] => (0, 0, false)
  | c :: cs => if b = true ∧ c = 45 then ((numU true cs).1, 1 + (numU true cs).2.1, (numU true cs).2.2) else numU false (c :: cs)
theorem runS_le (t : List Int) (n : Int) : (runS t n).2 ≤ t.length := by
  induction t generalizing n with
  | nil => simp [runS]
  | cons c cs ih =>
    simp only [runS]
    split
    · have := ih (stepN n c); simp; omega
    · simp
theorem runS_take (t : List Int) (n : Int) (m : Nat) (h : (runS t n).2 ≤ m) : runS (t.take m) n = runS t n := by
  induction t generalizing n m with
  | nil => simp
  | cons c cs ih =>
    simp only [runS] at h
    cases m with
    | zero =>
      split at h
      · simp at h
      · rename_i e
        simp only [List.take_zero, runS, e]
        rfl
    | succ m =>
      simp only [List.take_succ_cons, runS]
      split
      · rename_i e
        simp only [e, if_true] at h
        rw [ih _ m (by omega)]
      · rfl
theorem runS_range (t : List Int) (n : Int) (h : 0 ≤ n ∧ n ≤ 4611686018427387904) : 0 ≤ (runS t n).1 ∧ (runS t n).1 ≤ 4611686018427387904 := by
  induction t generalizing n with
  | nil => exact h
  | cons c cs ih =>
    simp only [runS]
    split
    · rename_i e
      refine ih _ ?_
      simp [digB] at e
      unfold stepN
      split
      · omega
      · omega
    · exact h
theorem numU_le (b : Bool) (t : List Int) : (numU b t).2.1 ≤ t.length := by
  cases t with
  | nil => simp [numU]
  | cons c cs =>
    have := runS_le (c :: cs) 0
    simp only [numU]
    split
    · simp
    · split
      · simp
      · exact this
theorem numU_take (b : Bool) (t : List Int) (m : Nat) (h : (numU b t).2.1 ≤ m) : numU b (t.take m) = numU b t := by
  cases t with
  | nil => simp
  | cons c cs =>
    cases m with
    | zero =>
      simp only [numU] at h ⊢
      split at h
      · rename_i g; rw [if_pos g]; rfl
      · rename_i g
        have hd : digB c = true := by cases hx : digB c <;> simp_all
        split at h
        · simp at h
        · simp [runS, hd] at h
    | succ m =>
      have e : (c :: cs).take (m + 1) = c :: cs.take m := rfl
      simp only [numU] at h
      rw [e]
      simp only [numU]
      by_cases g : digB c = false ∨ (b = true ∧ c = 48)
      · rw [if_pos g, if_pos g]
      · rw [if_neg g] at h
        rw [if_neg g, if_neg g]
        by_cases h48 : c = 48
        · rw [if_pos h48, if_pos h48]
        · rw [if_neg h48] at h
          rw [if_neg h48, if_neg h48, ← e, runS_take _ _ _ h]
theorem numS_le (b : Bool) (t : List Int) : (numS b t).2.1 ≤ t.length := by
  cases t with
  | nil => simp [numS]
  | cons c cs =>
    simp only [numS]
    split
    · have := numU_le true cs
      simp; omega
    · exact numU_le _ _
theorem numS_take (b : Bool) (t : List Int) (m : Nat) (h : (numS b t).2.1 ≤ m) : numS b (t.take m) = numS b t := by
  cases t with
  | nil => simp
  | cons c cs =>
    simp only [numS] at h
    by_cases g : b = true ∧ c = 45
    · rw [if_pos g] at h
      obtain ⟨m', rfl⟩ : ∃ m', m = m' + 1 := ⟨m - 1, by simp only at h; omega⟩
      rw [List.take_succ_cons]
      simp only [numS]
      rw [if_pos g, if_pos g, numU_take true cs m' (by simp only at h; omega)]
    · rw [if_neg g] at h
      have h2 := numU_take false (c :: cs) m h
      cases m with
      | zero =>
        simp only [numS]
        rw [if_neg g, ← h2]
        rfl
      | succ m =>
        rw [List.take_succ_cons] at h2 ⊢
        simp only [numS]
        rw [if_neg g, if_neg g, h2]
/-- One of some words, and a number with a word behind it, if all was well till there. -/
def rwS (t : List Int) (ws : List (List Int)) (a : Nat) (ok : Bool) : Int × Nat × Bool :=
  if ok = true then ((wordsS (t.drop a) ws 0 0).1, a + (wordsS (t.drop a) ws 0 0).2.1, (wordsS (t.drop a) ws 0 0).2.2) else (-1, a, false)
def rnS (t : List Int) (b : Bool) (w : List Int) (a : Nat) (ok : Bool) : Int × Nat × Bool :=
  if ok = true then ((numS b (t.drop a)).1, (rwS t [w] (a + (numS b (t.drop a)).2.1) (numS b (t.drop a)).2.2).2) else (0, a, false)
theorem rwS_ge (t : List Int) (ws : List (List Int)) (a : Nat) (ok : Bool) : a ≤ (rwS t ws a ok).2.1 := by
  unfold rwS; split <;> simp
theorem rwS_le (t : List Int) (ws : List (List Int)) (a : Nat) (ok : Bool) (h : a ≤ t.length) : (rwS t ws a ok).2.1 ≤ t.length := by
  unfold rwS
  split
  · have := wordsS_le (t.drop a) ws 0 0 (by omega)
    simp only [List.length_drop] at this
    simp only
    omega
  · exact h
theorem rwS_take (t : List Int) (ws : List (List Int)) (a : Nat) (ok : Bool) (m : Nat) (h : (rwS t ws a ok).2.1 ≤ m) : rwS (t.take m) ws a ok = rwS t ws a ok := by
  unfold rwS at h ⊢
  cases ok
  · rfl
  · simp only [if_true] at h ⊢
    rw [drop_cut, wordsS_take _ _ _ _ _ (by omega)]
theorem rnS_ge (t : List Int) (b : Bool) (w : List Int) (a : Nat) (ok : Bool) : a ≤ (rnS t b w a ok).2.1 := by
  unfold rnS
  split
  · have := rwS_ge t [w] (a + (numS b (t.drop a)).2.1) (numS b (t.drop a)).2.2
    simp only
    omega
  · simp
theorem rnS_le (t : List Int) (b : Bool) (w : List Int) (a : Nat) (ok : Bool) (h : a ≤ t.length) : (rnS t b w a ok).2.1 ≤ t.length := by
  unfold rnS
  split
  · have h1 := numS_le b (t.drop a)
    rw [List.length_drop] at h1
    exact rwS_le t [w] _ _ (by omega)
  · exact h
theorem rnS_take (t : List Int) (b : Bool) (w : List Int) (a : Nat) (ok : Bool) (m : Nat) (h : (rnS t b w a ok).2.1 ≤ m) : rnS (t.take m) b w a ok = rnS t b w a ok := by
  unfold rnS at h ⊢
  cases ok
  · rfl
  · simp only [if_true] at h ⊢
    have h1 := rwS_ge t [w] (a + (numS b (t.drop a)).2.1) (numS b (t.drop a)).2.2
    rw [drop_cut, numS_take b _ _ (by omega), rwS_take _ _ _ _ _ h]
def siteW : List Int := [115, 105, 116, 101, 32]
def endW : List Int := [101, 110, 100, 10]
/-- A site's numbers. -/
def roundS (t : List Int) (a : Nat) (ok : Bool) : (Int × Int × Int) × Nat × Bool :=
  (((rnS t false [32] a ok).1, (rnS t false [32] (rnS t false [32] a ok).2.1 (rnS t false [32] a ok).2.2).1, (rnS t false [10] (rnS t false [32] (rnS t false [32] a ok).2.1 (rnS t false [32] a ok).2.2).2.1 (rnS t false [32] (rnS t false [32] a ok).2.1 (rnS t false [32] a ok).2.2).2.2).1),
    (rnS t false [10] (rnS t false [32] (rnS t false [32] a ok).2.1 (rnS t false [32] a ok).2.2).2.1 (rnS t false [32] (rnS t false [32] a ok).2.1 (rnS t false [32] a ok).2.2).2.2).2)
theorem roundS_ge (t : List Int) (a : Nat) (ok : Bool) : a ≤ (roundS t a ok).2.1 := by
  unfold roundS
  exact Nat.le_trans (rnS_ge _ _ _ _ _) (Nat.le_trans (rnS_ge _ _ _ _ _) (rnS_ge _ _ _ _ _))
theorem roundS_le (t : List Int) (a : Nat) (ok : Bool) (h : a ≤ t.length) : (roundS t a ok).2.1 ≤ t.length := by
  unfold roundS
  exact rnS_le _ _ _ _ _ (rnS_le _ _ _ _ _ (rnS_le _ _ _ _ _ h))
theorem roundS_take (t : List Int) (a : Nat) (ok : Bool) (m : Nat) (h : (roundS t a ok).2.1 ≤ m) : roundS (t.take m) a ok = roundS t a ok := by
  have h3 := h
  unfold roundS at h ⊢
  simp only at h
  generalize hx : rnS t false [32] a ok = x at *
  generalize hy : rnS t false [32] x.2.1 x.2.2 = y at *
  have g1 := rnS_ge t false [10] y.2.1 y.2.2
  have g2 := rnS_ge t false [32] x.2.1 x.2.2
  rw [hy] at g2
  rw [rnS_take t false [32] a ok m (by rw [hx]; omega), hx, rnS_take t false [32] _ _ m (by rw [hy]; omega), hy, rnS_take t false [10] _ _ m h]
/-- The sites' lines, and what ends them. -/
def loopS {α : Type} (mk : Int × Int × Int → α) (t : List Int) : Nat → List α → Nat → Bool → List α × Nat × Bool
  | 0, acc, a, ok => (acc, a, ok)
  | k + 1, acc, a, ok => if (rwS t [siteW, endW] a ok).1 = 0 then loopS mk t k (acc ++ [mk (roundS t (rwS t [siteW, endW] a ok).2.1 (rwS t [siteW, endW] a ok).2.2).1]) (roundS t (rwS t [siteW, endW] a ok).2.1 (rwS t [siteW, endW] a ok).2.2).2.1 (roundS t (rwS t [siteW, endW] a ok).2.1 (rwS t [siteW, endW] a ok).2.2).2.2
    else (acc, (rwS t [siteW, endW] a ok).2)
/-- A word that stands takes room. -/
theorem site_step (t : List Int) (a : Nat) (ok : Bool) (h : (rwS t [siteW, endW] a ok).1 = 0) : (rwS t [siteW, endW] a ok).2.1 = a + 5 ∧ (rwS t [siteW, endW] a ok).2.2 = true ∧ ok = true ∧ cpl (t.drop a) siteW = 5 := by
  unfold rwS at h ⊢
  cases ok
  · simp at h
  · simp only [if_true, wordsS] at h ⊢
    split at h
    · rename_i e; rw [if_pos e]; exact ⟨rfl, rfl, trivial, e⟩
    · split at h
      · simp at h
      · simp at h
theorem site_len (t : List Int) (a : Nat) (h : cpl (t.drop a) siteW = 5) : a + 5 ≤ t.length := by
  have := cpl_le1 (t.drop a) siteW
  rw [List.length_drop] at this
  omega
theorem loopS_ge {α : Type} (mk : Int × Int × Int → α) (t : List Int) (k : Nat) (acc : List α) (a : Nat) (ok : Bool) : a ≤ (loopS mk t k acc a ok).2.1 := by
  induction k generalizing acc a ok with
  | zero => exact Nat.le_refl _
  | succ k ih =>
    simp only [loopS]
    have h1 := rwS_ge t [siteW, endW] a ok
    split
    · exact Nat.le_trans h1 (Nat.le_trans (roundS_ge _ _ _) (ih _ _ _))
    · exact h1
theorem loopS_le {α : Type} (mk : Int × Int × Int → α) (t : List Int) (k : Nat) (acc : List α) (a : Nat) (ok : Bool) (h : a ≤ t.length) : (loopS mk t k acc a ok).2.1 ≤ t.length := by
  induction k generalizing acc a ok with
  | zero => exact h
  | succ k ih =>
    simp only [loopS]
    have h1 := rwS_le t [siteW, endW] a ok h
    split
    · exact ih _ _ _ (roundS_le _ _ _ h1)
    · exact h1
theorem loopS_take {α : Type} (mk : Int × Int × Int → α) (t : List Int) (m k : Nat) : ∀ (k' : Nat) (acc : List α) (a : Nat) (ok : Bool), a ≤ t.length → t.length < a + k → (t.take m).length < a + k' → (loopS mk t k acc a ok).2.1 ≤ m → loopS mk (t.take m) k' acc a ok = loopS mk t k acc a ok := by
  induction k with
  | zero => intro k' acc a ok h1 h2; omega
  | succ k ih =>
    intro k' acc a ok h1 h2 h3 h4
    have h5 := Nat.le_trans (loopS_ge mk t (k + 1) acc a ok) h4
    have h6 : a ≤ (t.take m).length := by rw [List.length_take]; omega
    obtain ⟨k', rfl⟩ : ∃ j, k' = j + 1 := ⟨k' - 1, by omega⟩
    simp only [loopS] at h4 ⊢
    by_cases e : (rwS t [siteW, endW] a ok).1 = 0
    · obtain ⟨e1, e2, e3, e4⟩ := site_step t a ok e
      have e5 := site_len t a e4
      rw [if_pos e] at h4
      have g1 := loopS_ge mk t k (acc ++ [mk (roundS t (rwS t [siteW, endW] a ok).2.1 (rwS t [siteW, endW] a ok).2.2).1]) (roundS t (rwS t [siteW, endW] a ok).2.1 (rwS t [siteW, endW] a ok).2.2).2.1 (roundS t (rwS t [siteW, endW] a ok).2.1 (rwS t [siteW, endW] a ok).2.2).2.2
      have g2 := roundS_ge t (rwS t [siteW, endW] a ok).2.1 (rwS t [siteW, endW] a ok).2.2
      have g3 := roundS_le t (rwS t [siteW, endW] a ok).2.1 (rwS t [siteW, endW] a ok).2.2 (by omega)
      rw [rwS_take t _ a ok m (by omega), if_pos e, if_pos e, roundS_take t _ _ m (by omega)]
      exact ih _ _ _ _ g3 (by omega) (by omega) h4
    · rw [if_neg e] at h4
      rw [rwS_take t _ a ok m h4, if_neg e, if_neg e]
def headW : List Int := [112, 111, 105, 110, 116, 115, 32]
/-- All of it: the torus's side, the sites, how far it goes, and whether all was well. -/
def parseS {α : Type} (mk : Int × Int × Int → α) (t : List Int) : Int × List α × Nat × Bool :=
  ((rnS t false [10] (rwS t [headW] 0 true).2.1 (rwS t [headW] 0 true).2.2).1, loopS mk t (t.length + 1) [] (rnS t false [10] (rwS t [headW] 0 true).2.1 (rwS t [headW] 0 true).2.2).2.1 (rnS t false [10] (rwS t [headW] 0 true).2.1 (rwS t [headW] 0 true).2.2).2.2)
/-- What is told of a text. -/
def resS {α : Type} (mk : Int × Int × Int → α) (t : List Int) : Int × List α × Int × Int :=
  if (parseS mk t).2.2.2 = true ∧ (parseS mk t).2.2.1 = t.length then ((parseS mk t).1, (parseS mk t).2.1, 0, 0) else (0, [], ((parseS mk t).2.2.1 : Int), 17)
theorem start_le (t : List Int) : (rnS t false [10] (rwS t [headW] 0 true).2.1 (rwS t [headW] 0 true).2.2).2.1 ≤ t.length := rnS_le _ _ _ _ _ (rwS_le _ _ _ _ (Nat.zero_le _))
theorem parseS_le {α : Type} (mk : Int × Int × Int → α) (t : List Int) : (parseS mk t).2.2.1 ≤ t.length := loopS_le _ _ _ _ _ _ (start_le t)
theorem parseS_take {α : Type} (mk : Int × Int × Int → α) (t : List Int) (m : Nat) (h : (parseS mk t).2.2.1 ≤ m) : parseS mk (t.take m) = parseS mk t := by
  unfold parseS at h ⊢
  simp only at h
  have h0 := loopS_ge mk t (t.length + 1) [] (rnS t false [10] (rwS t [headW] 0 true).2.1 (rwS t [headW] 0 true).2.2).2.1 (rnS t false [10] (rwS t [headW] 0 true).2.1 (rwS t [headW] 0 true).2.2).2.2
  have h1 := rnS_ge t false [10] (rwS t [headW] 0 true).2.1 (rwS t [headW] 0 true).2.2
  have h2 := start_le t
  rw [rwS_take t [headW] 0 true m (by omega), rnS_take t false [10] _ _ m (by omega)]
  rw [loopS_take mk t m (t.length + 1) _ [] _ _ h2 (by omega) (by omega) h]
/-- What stands ahead of the place that is told goes on; and with one byte more it does not. -/
theorem longest {α : Type} (mk : Int × Int × Int → α) (t : List Int) (h : (resS mk t).2.2.2 ≠ 0) :
    ∃ p : Nat, (resS mk t).2.2.1 = (p : Int) ∧ p ≤ t.length ∧ ((resS mk (t.take p)).2.2.2 = 0 → p ≠ t.length) ∧ ((resS mk (t.take p)).2.2.2 ≠ 0 → (resS mk (t.take p)).2.2.1 = (p : Int)) ∧
      (p < t.length → (resS mk (t.take (p + 1))).2.2.1 = (p : Int) ∧ (resS mk (t.take (p + 1))).2.2.2 = 17) := by
  have h0 : ¬ ((parseS mk t).2.2.2 = true ∧ (parseS mk t).2.2.1 = t.length) := by
    intro e
    exact h (by unfold resS; rw [if_pos e])
  have hl := parseS_le mk t
  refine ⟨(parseS mk t).2.2.1, by unfold resS; rw [if_neg h0], hl, ?_, ?_, ?_⟩
  · intro e e2
    rw [e2, List.take_length] at e
    exact h e
  · intro e
    unfold resS at e ⊢
    rw [parseS_take mk t _ (Nat.le_refl _)] at e ⊢
    split at e
    · exact absurd rfl e
    · rename_i g
      rw [if_neg g]
  · intro hp
    unfold resS
    rw [parseS_take mk t _ (Nat.le_succ _), if_neg (by rw [List.length_take]; omega)]
    exact ⟨rfl, rfl⟩
end Go.Proofs.YtmfmojldebhboaaDoor.Pt
