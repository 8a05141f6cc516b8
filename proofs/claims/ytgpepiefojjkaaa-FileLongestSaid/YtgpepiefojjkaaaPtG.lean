/- A mesh's text, told of bytes: plain law, no program. -/
import Derived.Test.YtgpepiefojjkaaaPtA
namespace Go.Proofs.Ytgpepiefojjkaaa.Pt
set_option linter.unusedVariables false
set_option linter.unusedSimpArgs false
def meshW : List Int := [109, 101, 115, 104, 32]
def faceW : List Int := [102, 97, 99, 101, 32]
/-- Numbers with words behind them, one behind the other, if all goes well. -/
def chainS (t : List Int) : List (Bool × List Int) → List Int → Nat → Bool → List Int × Nat × Bool
  | [], acc, a, ok => (acc, a, ok)
  | x :: l, acc, a, ok => chainS t l (acc ++ [(rnS t x.1 x.2 a ok).1]) (rnS t x.1 x.2 a ok).2.1 (rnS t x.1 x.2 a ok).2.2
theorem chainS_ge (t : List Int) (l : List (Bool × List Int)) (acc : List Int) (a : Nat) (ok : Bool) : a ≤ (chainS t l acc a ok).2.1 := by
  induction l generalizing acc a ok with
  | nil => exact Nat.le_refl _
  | cons x l ih => exact Nat.le_trans (rnS_ge t x.1 x.2 a ok) (ih _ _ _)
theorem chainS_le (t : List Int) (l : List (Bool × List Int)) (acc : List Int) (a : Nat) (ok : Bool) (h : a ≤ t.length) : (chainS t l acc a ok).2.1 ≤ t.length := by
  induction l generalizing acc a ok with
  | nil => exact h
  | cons x l ih => exact ih _ _ _ (rnS_le t x.1 x.2 a ok h)
theorem chainS_take (t : List Int) (l : List (Bool × List Int)) (acc : List Int) (a : Nat) (ok : Bool) (m : Nat) (h : (chainS t l acc a ok).2.1 ≤ m) : chainS (t.take m) l acc a ok = chainS t l acc a ok := by
  induction l generalizing acc a ok with
  | nil => rfl
  | cons x l ih =>
    simp only [chainS] at h ⊢
    have := chainS_ge t l (acc ++ [(rnS t x.1 x.2 a ok).1]) (rnS t x.1 x.2 a ok).2.1 (rnS t x.1 x.2 a ok).2.2
    rw [rnS_take t x.1 x.2 a ok m (by omega)]
    exact ih _ _ _ h
theorem chainS_len (t : List Int) (l : List (Bool × List Int)) (acc : List Int) (a : Nat) (ok : Bool) : (chainS t l acc a ok).1.length = acc.length + l.length := by
  induction l generalizing acc a ok with
  | nil => rfl
  | cons x l ih =>
    simp only [chainS]
    rw [ih, List.length_append]
    simp only [List.length_cons, List.length_nil]
    omega
theorem chainS_acc (t : List Int) (l : List (Bool × List Int)) (acc : List Int) (a : Nat) (ok : Bool) : chainS t l acc a ok = (acc ++ (chainS t l [] a ok).1, (chainS t l [] a ok).2) := by
  induction l generalizing acc a ok with
  | nil => simp [chainS]
  | cons x l ih =>
    simp only [chainS]
    rw [ih (acc ++ [_]), ih ([] ++ [_])]
    simp
theorem chainS_app (t : List Int) (l m : List (Bool × List Int)) (acc : List Int) (a : Nat) (ok : Bool) : chainS t (l ++ m) acc a ok = chainS t m (chainS t l acc a ok).1 (chainS t l acc a ok).2.1 (chainS t l acc a ok).2.2 := by
  induction l generalizing acc a ok with
  | nil => rfl
  | cons x l ih => exact ih _ _ _
theorem rnS_no (t : List Int) (b : Bool) (w : List Int) (a : Nat) : rnS t b w a false = (0, a, false) := rfl
theorem chainS_false (t : List Int) (l : List (Bool × List Int)) (acc : List Int) (a : Nat) : (chainS t l acc a false).2 = (a, false) := by
  induction l generalizing acc with
  | nil => rfl
  | cons x l ih =>
    simp only [chainS]
    rw [rnS_no]
    exact ih _
def threeL (b : Bool) (w : List Int) : List (Bool × List Int) := [(false, [32]), (b, [32]), (b, w)]
def nineL : List (Bool × List Int) := threeL true [32] ++ (threeL true [32] ++ threeL true [10])
/-- Which line comes next, where sites may still come, and where they don't. -/
def lineS (t : List Int) (more : Bool) (a : Nat) (ok : Bool) : Int × Nat × Bool := if more = true then rwS t [siteW, faceW, endW] a ok else rwS t [endW, faceW] a ok
theorem lineS_ge (t : List Int) (more : Bool) (a : Nat) (ok : Bool) : a ≤ (lineS t more a ok).2.1 := by
  unfold lineS; split <;> exact rwS_ge _ _ _ _
theorem lineS_le (t : List Int) (more : Bool) (a : Nat) (ok : Bool) (h : a ≤ t.length) : (lineS t more a ok).2.1 ≤ t.length := by
  unfold lineS; split <;> exact rwS_le _ _ _ _ h
theorem lineS_take (t : List Int) (more : Bool) (a : Nat) (ok : Bool) (m : Nat) (h : (lineS t more a ok).2.1 ≤ m) : lineS (t.take m) more a ok = lineS t more a ok := by
  unfold lineS at h ⊢
  split
  · rename_i e
    rw [if_pos e] at h
    exact rwS_take _ _ _ _ _ h
  · rename_i e
    rw [if_neg e] at h
    exact rwS_take _ _ _ _ _ h
/-- A line's word that stands takes room. -/
theorem line_step (t : List Int) (more : Bool) (a : Nat) (ok : Bool) (h : a ≤ t.length) (hw : (lineS t more a ok).1 = 1 ∨ more = true ∧ (lineS t more a ok).1 = 0) : (lineS t more a ok).2.1 = a + 5 ∧ (lineS t more a ok).2.2 = true ∧ ok = true ∧ a + 5 ≤ t.length := by
  have hl := lineS_le t more a ok h
  unfold lineS rwS at hw hl ⊢
  cases ok
  · cases more <;> simp at hw
  · cases more
    · simp only [Bool.false_eq_true, if_false, if_true, wordsS, false_and, or_false] at hw hl ⊢
      split at hw
      · simp at hw
      · rename_i e1
        rw [if_neg e1] at hl
        rw [if_neg e1]
        split at hw
        · rename_i e2
          rw [if_pos e2] at hl
          rw [if_pos e2]
          exact ⟨rfl, rfl, trivial, hl⟩
        · simp at hw
    · simp only [if_true, wordsS, true_and] at hw hl ⊢
      split at hw
      · rename_i e1
        rw [if_pos e1] at hl
        rw [if_pos e1]
        exact ⟨rfl, rfl, hl⟩
      · rename_i e1
        rw [if_neg e1] at hl
        rw [if_neg e1]
        split at hw
        · rename_i e2
          rw [if_pos e2] at hl
          rw [if_pos e2]
          exact ⟨rfl, rfl, hl⟩
        · rename_i e2
          split at hw <;> simp at hw
section
variable {α β : Type} (mk : List Int → α) (mkf : List Int → β)
/-- The faces' lines, which told what it is that stands ahead. -/
def facesS (t : List Int) : Nat → List β → Int → Nat → Bool → List β × Nat × Bool
  | 0, acc, q, a, ok => (acc, a, ok)
  | k + 1, acc, q, a, ok => if q = 1 then facesS t k (acc ++ [mkf (chainS t nineL [] a ok).1]) (lineS t false (chainS t nineL [] a ok).2.1 (chainS t nineL [] a ok).2.2).1 (lineS t false (chainS t nineL [] a ok).2.1 (chainS t nineL [] a ok).2.2).2.1 (lineS t false (chainS t nineL [] a ok).2.1 (chainS t nineL [] a ok).2.2).2.2
    else (acc, a, ok)
/-- The sites' lines, and then the faces'. -/
def sitesS (t : List Int) : Nat → List α → Int → Nat → Bool → List α × List β × Nat × Bool
  | 0, acc, q, a, ok => (acc, [], a, ok)
  | k + 1, acc, q, a, ok => if q = 0 then sitesS t k (acc ++ [mk (chainS t (threeL false [10]) [] a ok).1]) (lineS t true (chainS t (threeL false [10]) [] a ok).2.1 (chainS t (threeL false [10]) [] a ok).2.2).1 (lineS t true (chainS t (threeL false [10]) [] a ok).2.1 (chainS t (threeL false [10]) [] a ok).2.2).2.1 (lineS t true (chainS t (threeL false [10]) [] a ok).2.1 (chainS t (threeL false [10]) [] a ok).2.2).2.2
    else (acc, facesS mkf t (k + 1) [] q a ok)
theorem facesS_ge (t : List Int) (k : Nat) (acc : List β) (q : Int) (a : Nat) (ok : Bool) : a ≤ (facesS mkf t k acc q a ok).2.1 := by
  induction k generalizing acc q a ok with
  | zero => exact Nat.le_refl _
  | succ k ih =>
    simp only [facesS]
    split
    · exact Nat.le_trans (chainS_ge t nineL [] a ok) (Nat.le_trans (lineS_ge t false _ _) (ih _ _ _ _))
    · exact Nat.le_refl _
theorem facesS_le (t : List Int) (k : Nat) (acc : List β) (q : Int) (a : Nat) (ok : Bool) (h : a ≤ t.length) : (facesS mkf t k acc q a ok).2.1 ≤ t.length := by
  induction k generalizing acc q a ok with
  | zero => exact h
  | succ k ih =>
    simp only [facesS]
    split
    · exact ih _ _ _ _ (lineS_le t false _ _ (chainS_le t nineL [] a ok h))
    · exact h
theorem sitesS_ge (t : List Int) (k : Nat) (acc : List α) (q : Int) (a : Nat) (ok : Bool) : a ≤ (sitesS mk mkf t k acc q a ok).2.2.1 := by
  induction k generalizing acc q a ok with
  | zero => exact Nat.le_refl _
  | succ k ih =>
    simp only [sitesS]
    split
    · exact Nat.le_trans (chainS_ge t _ [] a ok) (Nat.le_trans (lineS_ge t true _ _) (ih _ _ _ _))
    · exact facesS_ge mkf t _ _ _ _ _
theorem sitesS_le (t : List Int) (k : Nat) (acc : List α) (q : Int) (a : Nat) (ok : Bool) (h : a ≤ t.length) : (sitesS mk mkf t k acc q a ok).2.2.1 ≤ t.length := by
  induction k generalizing acc q a ok with
  | zero => exact h
  | succ k ih =>
    simp only [sitesS]
    split
    · exact ih _ _ _ _ (lineS_le t true _ _ (chainS_le t _ [] a ok h))
    · exact facesS_le mkf t _ _ _ _ _ h
/-- What is told ahead: a word that stands has been read well; a fuel that is enough. -/
theorem line_more (t : List Int) (more : Bool) (a : Nat) (ok : Bool) (q : Int × Nat × Bool) (hq : lineS t more a ok = q) (h : a ≤ t.length) (hw : q.1 = 1 ∨ more = true ∧ q.1 = 0) : q.2.1 = a + 5 := by
  subst hq
  exact (line_step t more a ok h hw).1
theorem facesS_take (t : List Int) (m : Nat) : ∀ (k k' : Nat) (acc : List β) (q : Int) (a : Nat) (ok : Bool), a ≤ t.length → t.length < a + k → (t.take m).length < a + k' → (facesS mkf t k acc q a ok).2.1 ≤ m → facesS mkf (t.take m) k' acc q a ok = facesS mkf t k acc q a ok := by
  intro k
  induction k with
  | zero => intro k' acc q a ok h1 h2; omega
  | succ k ih =>
    intro k' acc q a ok h1 h2 h3 h4
    have h5 := Nat.le_trans (facesS_ge mkf t (k + 1) acc q a ok) h4
    have h6 : a ≤ (t.take m).length := by rw [List.length_take]; omega
    obtain ⟨k', rfl⟩ : ∃ j, k' = j + 1 := ⟨k' - 1, by omega⟩
    simp only [facesS] at h4 ⊢
    by_cases e : q = 1
    · rw [if_pos e] at h4
      rw [if_pos e, if_pos e]
      have g1 := chainS_ge t nineL [] a ok
      have g2 := lineS_ge t false (chainS t nineL [] a ok).2.1 (chainS t nineL [] a ok).2.2
      have g3 := facesS_ge mkf t k (acc ++ [mkf (chainS t nineL [] a ok).1]) (lineS t false (chainS t nineL [] a ok).2.1 (chainS t nineL [] a ok).2.2).1 (lineS t false (chainS t nineL [] a ok).2.1 (chainS t nineL [] a ok).2.2).2.1 (lineS t false (chainS t nineL [] a ok).2.1 (chainS t nineL [] a ok).2.2).2.2
      have g4 := lineS_le t false _ (chainS t nineL [] a ok).2.2 (chainS_le t nineL [] a ok h1)
      have g5 := chainS_le t nineL [] a ok h1
      rw [chainS_take t nineL [] a ok m (by omega), lineS_take t false _ _ m (by omega)]
      by_cases e2 : (lineS t false (chainS t nineL [] a ok).2.1 (chainS t nineL [] a ok).2.2).1 = 1
      · have g6 := line_more t false _ _ _ rfl g5 (.inl e2)
        exact ih _ _ _ _ _ g4 (by omega) (by omega) h4
      · -- what stands ahead is no face: it ends
        have st : ∀ (t : List Int) (k : Nat) (acc : List β) (q : Int) (a : Nat) (ok : Bool), q ≠ 1 → facesS mkf t k acc q a ok = (acc, a, ok) := by
          intro t k acc q a ok h
          cases k with
          | zero => rfl
          | succ k => simp only [facesS]; rw [if_neg h]
        rw [st _ _ _ _ _ _ e2, st _ _ _ _ _ _ e2]
    · rw [if_neg e, if_neg e]
theorem facesS_stop (t : List Int) (k : Nat) (acc : List β) (q : Int) (a : Nat) (ok : Bool) (h : q ≠ 1) : facesS mkf t k acc q a ok = (acc, a, ok) := by
  cases k with
  | zero => rfl
  | succ k => simp only [facesS]; rw [if_neg h]
theorem sitesS_take (t : List Int) (m : Nat) : ∀ (k k' : Nat) (acc : List α) (q : Int) (a : Nat) (ok : Bool), a ≤ t.length → t.length < a + k → (t.take m).length < a + k' → (sitesS mk mkf t k acc q a ok).2.2.1 ≤ m → sitesS mk mkf (t.take m) k' acc q a ok = sitesS mk mkf t k acc q a ok := by
  intro k
  induction k with
  | zero => intro k' acc q a ok h1 h2; omega
  | succ k ih =>
    intro k' acc q a ok h1 h2 h3 h4
    have h5 := Nat.le_trans (sitesS_ge mk mkf t (k + 1) acc q a ok) h4
    have h6 : a ≤ (t.take m).length := by rw [List.length_take]; omega
    obtain ⟨k', rfl⟩ : ∃ j, k' = j + 1 := ⟨k' - 1, by omega⟩
    simp only [sitesS] at h4 ⊢
    by_cases e : q = 0
    · rw [if_pos e] at h4
      rw [if_pos e, if_pos e]
      have g1 := chainS_ge t (threeL false [10]) [] a ok
      have g2 := lineS_ge t true (chainS t (threeL false [10]) [] a ok).2.1 (chainS t (threeL false [10]) [] a ok).2.2
      have g3 := sitesS_ge mk mkf t k (acc ++ [mk (chainS t (threeL false [10]) [] a ok).1]) (lineS t true (chainS t (threeL false [10]) [] a ok).2.1 (chainS t (threeL false [10]) [] a ok).2.2).1 (lineS t true (chainS t (threeL false [10]) [] a ok).2.1 (chainS t (threeL false [10]) [] a ok).2.2).2.1 (lineS t true (chainS t (threeL false [10]) [] a ok).2.1 (chainS t (threeL false [10]) [] a ok).2.2).2.2
      have g4 := lineS_le t true _ (chainS t (threeL false [10]) [] a ok).2.2 (chainS_le t (threeL false [10]) [] a ok h1)
      have g5 := chainS_le t (threeL false [10]) [] a ok h1
      rw [chainS_take t _ [] a ok m (by omega), lineS_take t true _ _ m (by omega)]
      generalize hc : chainS t (threeL false [10]) [] a ok = c at *
      by_cases e2 : (lineS t true c.2.1 c.2.2).1 = 0 ∨ (lineS t true c.2.1 c.2.2).1 = 1
      · have g6 := line_more t true _ _ _ rfl g5 (e2.symm.imp id (fun h => ⟨rfl, h⟩))
        exact ih _ _ _ _ _ g4 (by omega) (by omega) h4
      · have st : ∀ (t : List Int) (k : Nat) (acc : List α) (q : Int) (a : Nat) (ok : Bool), ¬ (q = 0 ∨ q = 1) → sitesS mk mkf t k acc q a ok = (acc, [], a, ok) := by
          intro t k acc q a ok h
          cases k with
          | zero => rfl
          | succ k => simp only [sitesS]; rw [if_neg (fun e => h (.inl e)), facesS_stop mkf _ _ _ _ _ _ (fun e => h (.inr e))]
        rw [st _ _ _ _ _ _ e2, st _ _ _ _ _ _ e2]
    · rw [if_neg e] at h4
      rw [if_neg e, if_neg e, facesS_take mkf t m (k + 1) (k' + 1) [] q a ok h1 h2 h3 h4]
/-- The head's three numbers. -/
def headS (t : List Int) : List Int × Nat × Bool := chainS t (threeL false [10]) [] (rwS t [meshW] 0 true).2.1 (rwS t [meshW] 0 true).2.2
/-- All of it: the head's numbers, the sites, the faces, how far it goes, and whether all was well. -/
def fileS (t : List Int) : List Int × List α × List β × Nat × Bool :=
  ((headS t).1, sitesS mk mkf t (t.length + 1) [] (lineS t true (headS t).2.1 (headS t).2.2).1 (lineS t true (headS t).2.1 (headS t).2.2).2.1 (lineS t true (headS t).2.1 (headS t).2.2).2.2)
theorem headS_le (t : List Int) : (headS t).2.1 ≤ t.length := chainS_le _ _ _ _ _ (rwS_le _ _ _ _ (Nat.zero_le _))
theorem fileS_le (t : List Int) : (fileS mk mkf t).2.2.2.1 ≤ t.length := sitesS_le mk mkf _ _ _ _ _ _ (lineS_le _ _ _ _ (headS_le t))
theorem fileS_take (t : List Int) (m : Nat) (h : (fileS mk mkf t).2.2.2.1 ≤ m) : fileS mk mkf (t.take m) = fileS mk mkf t := by
  unfold fileS at h ⊢
  simp only at h
  have h0 := sitesS_ge mk mkf t (t.length + 1) [] (lineS t true (headS t).2.1 (headS t).2.2).1 (lineS t true (headS t).2.1 (headS t).2.2).2.1 (lineS t true (headS t).2.1 (headS t).2.2).2.2
  have h1 := lineS_ge t true (headS t).2.1 (headS t).2.2
  have h2 := lineS_le t true _ (headS t).2.2 (headS_le t)
  have h3 : headS (t.take m) = headS t := by
    have h4 : (rwS t [meshW] 0 true).2.1 ≤ (headS t).2.1 := chainS_ge t (threeL false [10]) [] (rwS t [meshW] 0 true).2.1 (rwS t [meshW] 0 true).2.2
    have h5 : (headS t).2.1 ≤ m := by omega
    unfold headS at h5 ⊢
    rw [rwS_take t [meshW] 0 true m (by omega), chainS_take t _ [] _ _ m h5]
  rw [h3, lineS_take t true _ _ m (by omega), sitesS_take mk mkf t m (t.length + 1) _ [] _ _ _ h2 (by omega) (by omega) h]
/-- What is told of a text. -/
def resF (t : List Int) : Int × Int × Int × List α × List β × Int × Int :=
  if (fileS mk mkf t).2.2.2.2 = true ∧ (fileS mk mkf t).2.2.2.1 = t.length then ((fileS mk mkf t).1.getD 0 0, (fileS mk mkf t).1.getD 1 0, (fileS mk mkf t).1.getD 2 0, (fileS mk mkf t).2.1, (fileS mk mkf t).2.2.1, 0, 0) else (0, 0, 0, [], [], ((fileS mk mkf t).2.2.2.1 : Int), 17)
end
end Go.Proofs.Ytgpepiefojjkaaa.Pt
