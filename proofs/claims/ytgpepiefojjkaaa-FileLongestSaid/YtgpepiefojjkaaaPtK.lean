/- What a mesh's text that breaks off can be gone on with: plain law, no program. -/
import Derived.Test.YtgpepiefojjkaaaPtG
namespace Go.Proofs.Ytgpepiefojjkaaa.Pt
set_option linter.unusedVariables false
set_option linter.unusedSimpArgs false
/-- A byte that ends a number. -/
def ndB (c : Int) : Prop := c = 32 ∨ c = 10
theorem nd_dig {c : Int} (h : ndB c) : digB c = false := by rcases h with rfl | rfl <;> rfl
theorem runS_nd (x y : List Int) (c n : Int) (h : digB c = false) : runS (x ++ c :: y) n = runS x n := by
  induction x generalizing n with
  | nil => simp [runS, h]
  | cons d x ih =>
    simp only [List.cons_append, runS]
    split
    · rw [ih]
    · rfl
theorem numU_nd (b : Bool) (x y : List Int) (c : Int) (h : digB c = false) : numU b (x ++ c :: y) = if x = [] then (0, 0, false) else numU b x := by
  cases x with
  | nil => simp [numU, h]
  | cons d x =>
    rw [if_neg (by simp)]
    have := runS_nd (d :: x) y c 0 h
    simp only [List.cons_append] at this
    simp only [List.cons_append, numU, this]
theorem numS_nd (b : Bool) (x y : List Int) (c : Int) (h : ndB c) : numS b (x ++ c :: y) = numS b (x ++ [c]) := by
  have hd := nd_dig h
  cases x with
  | nil =>
    have h45 : c ≠ 45 := by rcases h with rfl | rfl <;> decide
    simp only [List.nil_append, numS]
    rw [if_neg (fun e => h45 e.2), if_neg (fun e => h45 e.2)]
    simp [numU, hd]
  | cons d x =>
    have e1 := numU_nd true x y c hd
    have e2 := numU_nd true x [] c hd
    have e3 := numU_nd false (d :: x) y c hd
    have e4 := numU_nd false (d :: x) [] c hd
    rw [List.cons_append] at e3 e4
    simp only [List.cons_append, numS]
    rw [e1, e2, e3, e4]
theorem numS_add (b : Bool) (x : List Int) (c v : Int) (h : ndB c) (hx : numS b x = (v, x.length, true)) : numS b (x ++ [c]) = (v, x.length, true) := by
  have hd := nd_dig h
  cases x with
  | nil => simp [numS] at hx
  | cons d x =>
    have e2 := numU_nd true x [] c hd
    have e4 := numU_nd false (d :: x) [] c hd
    rw [if_neg (by simp), List.cons_append] at e4
    simp only [List.cons_append, numS] at hx ⊢
    split
    · rename_i g
      rw [if_pos g] at hx
      rw [e2]
      split
      · rename_i e
        subst e
        simp [numU] at hx
      · exact hx
    · rename_i g
      rw [if_neg g] at hx
      rw [e4]
      exact hx
theorem cpl_app (w y : List Int) : cpl (w ++ y) w = w.length := by
  induction w with
  | nil => cases y <;> rfl
  | cons c w ih => simp [cpl, ih]
theorem cpl_pre (u w : List Int) (h : cpl u w = w.length) : u = w ++ u.drop w.length := by
  have h1 := cpl_le1 u w
  have h2 := (cpl_ge u w w.length (by omega) (Nat.le_refl _)).1 (by omega)
  rw [List.take_length] at h2
  conv => lhs; rw [← List.take_append_drop w.length u]
  rw [h2]
/-- A number that a byte ends. -/
def numOk (b : Bool) (x : List Int) (c : Int) : Prop := (numS b (x ++ [c])).2 = (x.length, true)
theorem rnS_of (t : List Int) (b : Bool) (c : Int) (hc : ndB c) (a : Nat) (x y : List Int) (ht : t.drop a = x ++ c :: y) (hx : numOk b x c) : (rnS t b [c] a true).2 = (a + x.length + 1, true) := by
  unfold rnS
  rw [if_pos rfl, ht, numS_nd b x y c hc]
  unfold numOk at hx
  have e1 : (numS b (x ++ [c])).2.1 = x.length := by rw [hx]
  have e2 : (numS b (x ++ [c])).2.2 = true := by rw [hx]
  rw [e1, e2]
  unfold rwS
  have e3 : t.drop (a + x.length) = [c] ++ y := by rw [← List.drop_drop, ht, List.drop_left]; rfl
  rw [if_pos rfl, e3]
  simp only [wordsS]
  rw [if_pos (cpl_app _ _)]
  rfl
theorem rnS_ok (t : List Int) (b : Bool) (c : Int) (hc : ndB c) (a n : Nat) (h : (rnS t b [c] a true).2 = (n, true)) : ∃ x, t.drop a = x ++ c :: t.drop n ∧ n = a + x.length + 1 ∧ numOk b x c := by
  unfold rnS at h
  rw [if_pos rfl] at h
  have hle := numS_le b (t.drop a)
  have htk := numS_take b (t.drop a) (numS b (t.drop a)).2.1 (Nat.le_refl _)
  generalize hk : numS b (t.drop a) = r at *
  obtain ⟨v, k, ok⟩ := r
  simp only at h hle htk
  cases ok
  · unfold rwS at h; simp at h
  · unfold rwS at h
    rw [if_pos rfl] at h
    simp only [wordsS] at h
    split at h
    · rename_i e
      have e2 := cpl_pre _ _ e
      rw [List.drop_drop] at e2
      simp only [List.length_cons, List.length_nil, Prod.mk.injEq, and_true] at h
      refine ⟨(t.drop a).take k, ?_, ?_, ?_⟩
      · have e3 : (t.drop a).drop k = c :: t.drop n := by
          rw [List.drop_drop, e2, ← h]
          rfl
        rw [← e3, List.take_append_drop]
      · rw [List.length_take, Nat.min_eq_left hle]
        omega
      · unfold numOk
        have := numS_add b ((t.drop a).take k) c v hc (by rw [htk, List.length_take, Nat.min_eq_left hle])
        rw [this]
    · simp at h
theorem rnS_bad (t : List Int) (b : Bool) (c : Int) (hc : ndB c) (a p : Nat) (h : (rnS t b [c] a true).2 = (p, false)) : ∃ x, (t.drop a).take (p - a) = x ∧ p = a + x.length ∧ (numOk b x c ∨ numOk b (x ++ [49]) c) := by
  unfold rnS at h
  rw [if_pos rfl] at h
  have hle := numS_le b (t.drop a)
  have htk := numS_take b (t.drop a) (numS b (t.drop a)).2.1 (Nat.le_refl _)
  generalize hk : numS b (t.drop a) = r at *
  obtain ⟨v, k, ok⟩ := r
  simp only at h hle htk
  cases ok
  · unfold rwS at h
    simp only [Bool.false_eq_true, if_false, Prod.mk.injEq, and_true] at h
    refine ⟨(t.drop a).take k, by rw [show p - a = k from by omega], by rw [List.length_take, Nat.min_eq_left hle]; omega, .inr ?_⟩
    -- there is no number: nothing, or a minus alone
    have hu : (k = 0 ∨ b = true ∧ k = 1 ∧ (t.drop a).take k = [45]) := by
      cases hd : t.drop a with
      | nil => rw [hd] at hk; simp [numS] at hk; left; exact hk.2.symm
      | cons d x =>
        rw [hd] at hk
        have nu : ∀ (b : Bool) (u : List Int), (numU b u).2.2 = false → (numU b u).2.1 = 0 := by
          intro b u
          cases u with
          | nil => intro _; rfl
          | cons d x =>
            simp only [numU]
            split
            · intro _; rfl
            · split <;> (intro h; cases h)
        simp only [numS] at hk
        split at hk
        · rename_i g
          simp only [Prod.mk.injEq] at hk
          have := nu true x hk.2.2
          right
          refine ⟨g.1, by omega, ?_⟩
          have : k = 1 := by omega
          subst this
          simp [g.2]
        · left
          have := nu false (d :: x) (by rw [hk])
          rw [hk] at this
          exact this
    unfold numOk
    rcases hu with rfl | ⟨rfl, rfl, e⟩
    · rcases hc with rfl | rfl <;> cases b <;> rfl
    · rw [e]
      rcases hc with rfl | rfl <;> rfl
  · unfold rwS at h
    rw [if_pos rfl] at h
    simp only [wordsS] at h
    split at h
    · simp at h
    · rename_i e
      have h1 := cpl_le2 (t.drop (a + k)) [c]
      have hk0 : cpl (t.drop (a + k)) [c] = 0 := by
        simp only [List.length_cons, List.length_nil] at h1 e
        omega
      rw [hk0] at h
      simp only [Nat.max_self, Nat.add_zero, Prod.mk.injEq, and_true] at h
      refine ⟨(t.drop a).take k, by rw [show p - a = k from by omega], by rw [List.length_take, Nat.min_eq_left hle]; omega, .inl ?_⟩
      unfold numOk
      rw [numS_add b ((t.drop a).take k) c v hc (by rw [htk, List.length_take, Nat.min_eq_left hle])]
/-- Ones, with what stands behind each. -/
def txtL : List (Bool × List Int) → List Int
  | [] => []
  | x :: l => 49 :: (x.2 ++ txtL l)
def okL (l : List (Bool × List Int)) : Prop := ∀ x ∈ l, ∃ c, x.2 = [c] ∧ ndB c
theorem okL_cons {x : Bool × List Int} {l : List (Bool × List Int)} (h : okL (x :: l)) : (∃ c, x.2 = [c] ∧ ndB c) ∧ okL l := ⟨h x (List.mem_cons_self ..), fun y hy => h y (List.mem_cons_of_mem _ hy)⟩
theorem one_ok (b : Bool) (c : Int) (hc : ndB c) : numOk b [49] c := by
  unfold numOk
  rcases hc with rfl | rfl <;> cases b <;> rfl
theorem chain_default (t : List Int) (l : List (Bool × List Int)) (hl : okL l) : ∀ (acc : List Int) (a : Nat) (y : List Int), t.drop a = txtL l ++ y → (chainS t l acc a true).2 = (a + (txtL l).length, true) := by
  induction l with
  | nil => intro acc a y h; rfl
  | cons x l ih =>
    intro acc a y h
    obtain ⟨⟨c, hxc, hc⟩, hl2⟩ := okL_cons hl
    obtain ⟨b, w⟩ := x
    simp only at hxc
    subst hxc
    simp only [txtL] at h ⊢
    have h1 := rnS_of t b c hc a [49] (txtL l ++ y) (by rw [h]; rfl) (one_ok b c hc)
    simp only [chainS]
    rw [h1]
    have h2 := ih hl2 (acc ++ [(rnS t b [c] a true).1]) (a + [49].length + 1) y (by
      show t.drop (a + 2) = _
      rw [← List.drop_drop, h]
      rfl)
    refine h2.trans ?_
    simp only [List.length_cons, List.length_append, List.length_nil]
    congr 1
    omega
/-- What goes well hangs on what has been read alone. -/
theorem chain_ext (t t' : List Int) (l : List (Bool × List Int)) (hl : okL l) : ∀ (acc acc' : List Int) (a p : Nat), (chainS t l acc a true).2 = (p, true) → a ≤ t.length → t'.take p = t.take p → (chainS t' l acc' a true).2 = (p, true) := by
  induction l with
  | nil => intro acc acc' a p h _ _; exact h
  | cons x l ih =>
    intro acc acc' a p h ha ht
    obtain ⟨⟨c, hxc, hc⟩, hl2⟩ := okL_cons hl
    obtain ⟨b, w⟩ := x
    simp only at hxc
    subst hxc
    simp only [chainS] at h ⊢
    have hge := chainS_ge t l (acc ++ [(rnS t b [c] a true).1]) (rnS t b [c] a true).2.1 (rnS t b [c] a true).2.2
    have hle := rnS_le t b [c] a true ha
    rw [h] at hge
    simp only at hge
    rcases hr : (rnS t b [c] a true).2 with ⟨n, ok⟩
    rw [hr] at h hge hle
    simp only at h hge hle
    cases ok
    · have := chainS_false t l (acc ++ [(rnS t b [c] a true).1]) n
      rw [this] at h
      cases h
    · obtain ⟨x, hx1, hx2, hx3⟩ := rnS_ok t b c hc a n hr
      have ha' : a ≤ n := by omega
      have e : t'.drop a = x ++ c :: t'.drop n := by
        have e1 : (t'.take n).drop a = (t.take n).drop a := by
          have : t'.take n = t.take n := by
            have := congrArg (List.take n) ht
            rwa [List.take_take, List.take_take, Nat.min_eq_left hge] at this
          rw [this]
        have e2 : (t.take n).drop a = x ++ [c] := by
          rw [List.drop_take, hx1, show x ++ c :: t.drop n = (x ++ [c]) ++ t.drop n from by simp, List.take_append_of_le_length (by simp; omega), List.take_of_length_le (by simp; omega)]
        have hn' : n ≤ t'.length := by
          have := congrArg List.length ht
          rw [List.length_take, List.length_take] at this
          omega
        conv => lhs; rw [← List.take_append_drop n t']
        rw [List.drop_append_of_le_length (by rw [List.length_take]; omega), e1, e2]
        simp
      have h1 := rnS_of t' b c hc a x (t'.drop n) e hx3
      rw [← hx2] at h1
      rw [h1]
      exact ih hl2 _ _ n p h hle ht
/-- What a row of numbers that breaks off can be gone on with. -/
def compL : List (Bool × List Int) → List (List Int)
  | [] => []
  | x :: l => (x.2 ++ txtL l) :: (49 :: (x.2 ++ txtL l)) :: compL l
theorem chain_comp (t : List Int) (l : List (Bool × List Int)) (hl : okL l) : ∀ (acc : List Int) (a p : Nat), (chainS t l acc a true).2 = (p, false) → a ≤ t.length → ∃ c0 ∈ compL l, ∀ (y acc' : List Int), (chainS (t.take p ++ (c0 ++ y)) l acc' a true).2 = (p + c0.length, true) := by
  induction l with
  | nil => intro acc a p h; simp [chainS] at h
  | cons x l ih =>
    intro acc a p h ha
    have hpl := chainS_le t (x :: l) acc a true ha
    rw [h] at hpl
    simp only at hpl
    obtain ⟨⟨c, hxc, hc⟩, hl2⟩ := okL_cons hl
    obtain ⟨b, w⟩ := x
    simp only at hxc
    subst hxc
    simp only [chainS] at h
    have hge := chainS_ge t l (acc ++ [(rnS t b [c] a true).1]) (rnS t b [c] a true).2.1 (rnS t b [c] a true).2.2
    have hle := rnS_le t b [c] a true ha
    rw [h] at hge
    simp only at hge
    rcases hr : (rnS t b [c] a true).2 with ⟨n, ok⟩
    rw [hr] at h hge hle
    simp only at h hge hle
    cases ok
    · have hf := chainS_false t l (acc ++ [(rnS t b [c] a true).1]) n
      rw [hf] at h
      obtain rfl : n = p := by injection h
      obtain ⟨x, hx1, hx2, hx3⟩ := rnS_bad t b c hc a n hr
      have fin : ∀ z : List Int, numOk b (x ++ z) c → ∀ (y acc' : List Int), (chainS (t.take n ++ ((z ++ ([c] ++ txtL l)) ++ y)) ((b, [c]) :: l) acc' a true).2 = (n + (z ++ ([c] ++ txtL l)).length, true) := by
        intro z hz y acc'
        have hlt : (t.take n).length = n := by rw [List.length_take]; omega
        have e : (t.take n ++ ((z ++ ([c] ++ txtL l)) ++ y)).drop a = (x ++ z) ++ c :: (txtL l ++ y) := by
          rw [List.drop_append_of_le_length (by omega), List.drop_take, hx1]
          simp
        have h1 := rnS_of _ b c hc a (x ++ z) (txtL l ++ y) e hz
        simp only [chainS]
        rw [h1]
        have h2 := chain_default (t.take n ++ ((z ++ ([c] ++ txtL l)) ++ y)) l hl2 (acc' ++ [(rnS (t.take n ++ ((z ++ ([c] ++ txtL l)) ++ y)) b [c] a true).1]) (a + (x ++ z).length + 1) y (by
          rw [show a + (x ++ z).length + 1 = a + ((x ++ z) ++ [c]).length from by simp; omega, ← List.drop_drop, e, show (x ++ z) ++ c :: (txtL l ++ y) = ((x ++ z) ++ [c]) ++ (txtL l ++ y) from by simp, List.drop_left])
        refine h2.trans ?_
        simp only [List.length_append, List.length_cons, List.length_nil]
        congr 1
        omega
      rcases hx3 with h3 | h3
      · refine ⟨[c] ++ txtL l, by simp [compL], fun y acc' => ?_⟩
        have := fin [] (by rw [List.append_nil]; exact h3) y acc'
        simpa using this
      · refine ⟨49 :: ([c] ++ txtL l), by simp [compL], fun y acc' => ?_⟩
        have := fin [49] h3 y acc'
        simpa using this
    · obtain ⟨c0, hm, hc0⟩ := ih hl2 _ n p h hle
      refine ⟨c0, by simp only [compL, List.mem_cons]; exact .inr (.inr hm), fun y acc' => ?_⟩
      obtain ⟨x, hx1, hx2, hx3⟩ := rnS_ok t b c hc a n hr
      have h1 := chain_ext t (t.take p ++ (c0 ++ y)) [(b, [c])] (fun z hz => by rw [List.mem_singleton.1 hz]; exact ⟨c, rfl, hc⟩) acc acc' a n (by simp only [chainS]; exact hr) ha (by
        rw [List.take_append_of_le_length (by rw [List.length_take]; omega), List.take_take, Nat.min_eq_left hge])
      have h1' : (rnS (t.take p ++ (c0 ++ y)) b [c] a true).2 = (n, true) := h1
      simp only [chainS]
      rw [h1']
      exact hc0 y (acc' ++ _)
theorem okThree (b : Bool) : okL (threeL b [32]) ∧ okL (threeL b [10]) := by
  constructor <;> (intro x hx; simp only [threeL, List.mem_cons, List.not_mem_nil, or_false] at hx; rcases hx with rfl | rfl | rfl)
  · exact ⟨32, rfl, .inl rfl⟩
  · exact ⟨32, rfl, .inl rfl⟩
  · exact ⟨32, rfl, .inl rfl⟩
  · exact ⟨32, rfl, .inl rfl⟩
  · exact ⟨32, rfl, .inl rfl⟩
  · exact ⟨10, rfl, .inr rfl⟩
theorem okNine : okL nineL := by
  intro x hx
  unfold nineL at hx
  rcases List.mem_append.1 hx with h | h
  · exact (okThree true).1 x h
  · rcases List.mem_append.1 h with h | h
    · exact (okThree true).1 x h
    · exact (okThree true).2 x h
end Go.Proofs.Ytgpepiefojjkaaa.Pt
