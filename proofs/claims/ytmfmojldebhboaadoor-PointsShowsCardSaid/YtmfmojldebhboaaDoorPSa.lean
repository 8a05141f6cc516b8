/- A site's text read again: plain law, told of bytes. -/
import Derived.Test.YtmfmojldebhboaaDoorStr
import Derived.Test.YtmfmojldebhboaaDoorPtA
namespace Go.Proofs.YtmfmojldebhboaaDoor.Pt
open Go.RowKit Go.Proofs.YtmfmojldebhboaaDoorW.PrintWords Go.Proofs.YtmfmojldebhboaaDoorW.PrintLast Go.Proofs.YtmfmojldebhboaaDoorW.PrintMore Go.Proofs.YtmfmojldebhboaaDoor.Num
set_option linter.unusedVariables false
set_option linter.unusedSimpArgs false

theorem decS_small (u : Nat) (h : u < 10) : decS u = [48 + (u : Int)] := by
  unfold decS
  by_cases h0 : u = 0
  · rw [if_pos h0, h0]; rfl
  · rw [if_neg h0, NB_pos (by omega) (by omega), show u / 10 = 0 from by omega, NB_zero, show u % 10 = u from by omega]
    simp [Ch]
theorem decS_big (u : Nat) (h : ¬ u < 10) : decS u = decS (u / 10) ++ [48 + ((u % 10 : Nat) : Int)] := by
  unfold decS
  rw [if_neg (by omega), if_neg (by omega), NB_pos (by omega) (by omega)]
  simp [Ch]
/-- What is read of a number's digits. -/
def valC (u : Nat) : Int := (decS u).foldl stepN 0
theorem valC_eq (u : Nat) (h : u ≤ 4611686018427387904) : valC u = (u : Int) := by
  induction u using Nat.strongRecOn with
  | ind u ih =>
    unfold valC
    by_cases h1 : u < 10
    · rw [decS_small u h1]
      simp only [List.foldl_cons, List.foldl_nil]
      unfold stepN
      rw [if_neg (by omega)]
      omega
    · rw [decS_big u h1, List.foldl_append]
      have e := ih (u / 10) (by omega) (by omega)
      unfold valC at e
      rw [e]
      simp only [List.foldl_cons, List.foldl_nil]
      unfold stepN
      rw [if_neg (by omega)]
      omega
theorem digB_of (c : Int) (h : 48 ≤ c ∧ c ≤ 57) : digB c = true := by simp [digB, h]
theorem runS_dig (xs : List Int) (c : Int) (rest : List Int) (hx : ∀ x ∈ xs, 48 ≤ x ∧ x ≤ 57) (hc : digB c = false) : ∀ m : Int, runS (xs ++ c :: rest) m = (xs.foldl stepN m, xs.length) := by
  induction xs with
  | nil =>
    intro m
    simp [runS, hc]
  | cons x xs ih =>
    intro m
    have hd := digB_of x (hx x List.mem_cons_self)
    have e := ih (fun y hy => hx y (List.mem_cons_of_mem _ hy)) (stepN m x)
    simp only [List.cons_append, runS]
    rw [if_pos hd, e]
    rfl
theorem numS_dec (u : Nat) (c : Int) (rest : List Int) (hc : digB c = false) : numS false (decS u ++ c :: rest) = (valC u, (decS u).length, true) := by
  have hr := decS_range u
  have hn := runS_dig (decS u) c rest hr hc 0
  have key : ∀ x xs, decS u = x :: xs → x ≠ 48 → numS false (decS u ++ c :: rest) = (valC u, (decS u).length, true) := by
    intro x xs e h48
    have hd := digB_of x (hr x (by rw [e]; exact List.mem_cons_self))
    have e2 : decS u ++ c :: rest = x :: (xs ++ c :: rest) := by rw [e]; rfl
    rw [e2] at hn ⊢
    simp only [numS]
    rw [if_neg (fun g => Bool.false_ne_true g.1)]
    simp only [numU]
    rw [if_neg (by simp [hd]), if_neg h48, if_neg Bool.false_ne_true, hn]
    rfl
  by_cases h1 : u < 10
  · by_cases h0 : u = 0
    · subst h0
      rfl
    · exact key _ _ (decS_small u h1) (by omega)
  · obtain ⟨x, xs, e, h48⟩ := decS_lead u (by
      have a := decS_big u h1
      have b := decS_ne (u / 10)
      have d := List.length_pos_iff.2 b
      rw [a, List.length_append]
      simp only [List.length_cons, List.length_nil]
      omega)
    exact key x xs e h48
theorem cpl_pre (w rest : List Int) : cpl (w ++ rest) w = w.length := by
  induction w with
  | nil => cases rest <;> simp [cpl]
  | cons x xs ih => simp [cpl, ih]
/-- A number and what ends it, read where it stands. -/
theorem rnS_dec (t : List Int) (a u : Nat) (c : Int) (rest : List Int) (h : t.drop a = decS u ++ c :: rest) (hc : digB c = false) :
    rnS t false [c] a true = (valC u, a + (decS u).length + 1, true) ∧ t.drop (a + (decS u).length + 1) = rest := by
  have hd1 : t.drop (a + (decS u).length) = c :: rest := by rw [← List.drop_drop, h, List.drop_left]
  have hd2 : t.drop (a + (decS u).length + 1) = rest := by rw [← List.drop_drop, hd1]; rfl
  refine ⟨?_, hd2⟩
  unfold rnS
  rw [if_pos rfl, h, numS_dec u c rest hc]
  simp only
  unfold rwS
  rw [if_pos rfl, hd1]
  simp only [wordsS]
  have e := cpl_pre [c] rest
  rw [show [c] ++ rest = c :: rest from rfl] at e
  rw [if_pos e]
  rfl
theorem rwS_one (t : List Int) (a : Nat) (w : List Int) (rest : List Int) (h : t.drop a = w ++ rest) : rwS t [w] a true = (0, a + w.length, true) ∧ t.drop (a + w.length) = rest := by
  refine ⟨?_, by rw [← List.drop_drop, h, List.drop_left]⟩
  unfold rwS
  rw [if_pos rfl, h]
  simp only [wordsS]
  rw [if_pos (cpl_pre w rest)]
theorem rwS_site (t : List Int) (a : Nat) (rest : List Int) (h : t.drop a = siteW ++ rest) : rwS t [siteW, endW] a true = (0, a + 5, true) ∧ t.drop (a + 5) = rest := by
  refine ⟨?_, by rw [← List.drop_drop, h]; rfl⟩
  unfold rwS
  rw [if_pos rfl, h]
  simp only [wordsS]
  rw [if_pos (cpl_pre siteW rest)]
  rfl
theorem rwS_end (t : List Int) (a : Nat) (h : t.drop a = endW) : rwS t [siteW, endW] a true = (1, a + 4, true) ∧ a + 4 = t.length := by
  have hl : (t.drop a).length = 4 := by rw [h]; rfl
  rw [List.length_drop] at hl
  refine ⟨?_, by omega⟩
  unfold rwS
  rw [if_pos rfl, h]
  rfl
/-- A site's line, told of bytes. -/
def lineL (x : Nat × Nat × Nat) : List Int := siteW ++ (decS x.1 ++ 32 :: (decS x.2.1 ++ 32 :: (decS x.2.2 ++ [10])))
def val3 (x : Nat × Nat × Nat) : Int × Int × Int := (valC x.1, valC x.2.1, valC x.2.2)
theorem roundS_line (t : List Int) (a : Nat) (x : Nat × Nat × Nat) (rest : List Int) (h : t.drop a = decS x.1 ++ 32 :: (decS x.2.1 ++ 32 :: (decS x.2.2 ++ 10 :: rest))) :
    ∃ b, roundS t a true = (val3 x, b, true) ∧ t.drop b = rest := by
  obtain ⟨e1, d1⟩ := rnS_dec t a x.1 32 _ h (by decide)
  obtain ⟨e2, d2⟩ := rnS_dec t _ x.2.1 32 _ d1 (by decide)
  obtain ⟨e3, d3⟩ := rnS_dec t _ x.2.2 10 _ d2 (by decide)
  refine ⟨_, ?_, d3⟩
  unfold roundS
  rw [e1]
  simp only
  rw [e2]
  simp only
  rw [e3]
  rfl
theorem loopS_lines {α : Type} (mk : Int × Int × Int → α) (t : List Int) : ∀ (l : List (Nat × Nat × Nat)) (k a : Nat) (acc : List α), l.length < k → t.drop a = l.flatMap lineL ++ endW →
    loopS mk t k acc a true = (acc ++ l.map (fun x => mk (val3 x)), t.length, true) := by
  intro l
  induction l with
  | nil =>
    intro k a acc hk h
    obtain ⟨k, rfl⟩ : ∃ j, k = j + 1 := ⟨k - 1, by simp at hk; omega⟩
    obtain ⟨e1, e2⟩ := rwS_end t a (by simpa using h)
    simp only [loopS]
    rw [e1]
    simp only
    rw [if_neg (by decide), e2]
    simp
  | cons x l ih =>
    intro k a acc hk h
    obtain ⟨k, rfl⟩ : ∃ j, k = j + 1 := ⟨k - 1, by simp at hk; omega⟩
    have h2 : t.drop a = siteW ++ (decS x.1 ++ 32 :: (decS x.2.1 ++ 32 :: (decS x.2.2 ++ 10 :: (l.flatMap lineL ++ endW)))) := by
      rw [h]
      simp [lineL]
    obtain ⟨e1, d1⟩ := rwS_site t a _ h2
    obtain ⟨b, e2, d2⟩ := roundS_line t (a + 5) x _ d1
    have e3 := ih k b (acc ++ [mk (val3 x)]) (by simp at hk; omega) d2
    simp only [loopS]
    rw [e1]
    simp only
    rw [if_pos trivial, e2]
    simp only
    rw [e3]
    simp
/-- A text of sites, told of bytes. -/
def textL (n : Nat) (l : List (Nat × Nat × Nat)) : List Int := headW ++ (decS n ++ 10 :: (l.flatMap lineL ++ endW))
theorem resS_text {α : Type} (mk : Int × Int × Int → α) (n : Nat) (l : List (Nat × Nat × Nat)) : resS mk (textL n l) = (valC n, l.map (fun x => mk (val3 x)), 0, 0) := by
  have h0 : (textL n l).drop 0 = headW ++ (decS n ++ 10 :: (l.flatMap lineL ++ endW)) := rfl
  obtain ⟨e1, d1⟩ := rwS_one (textL n l) 0 headW _ h0
  obtain ⟨e2, d2⟩ := rnS_dec (textL n l) _ n 10 _ d1 (by decide)
  have hlen : l.length < (textL n l).length + 1 := by
    have : l.length ≤ (l.flatMap lineL).length := by
      clear h0 e1 d1 e2 d2
      induction l with
      | nil => simp
      | cons x l ih =>
        simp only [List.flatMap_cons, List.length_append, List.length_cons]
        have : 0 < (lineL x).length := by simp [lineL, siteW]
        omega
    unfold textL
    simp only [List.length_append, List.length_cons]
    omega
  have e3 := loopS_lines mk (textL n l) l _ _ [] hlen d2
  unfold resS parseS
  rw [e1]
  simp only
  rw [e2]
  simp only
  rw [e3]
  simp
end Go.Proofs.YtmfmojldebhboaaDoor.Pt
