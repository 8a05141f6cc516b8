/- What the printed reference's readers come to, told of bytes; the law PointsParses. -/
import Derived.Test.YtgpepiefojjkaaaPtC
import Derived.Test.YtgpepiefojjkaaaZPtsx7
namespace Go.Proofs.Ytgpepiefojjkaaa.Pt
open Go.RowKit Go.Proofs.YtgpepiefojjkaaaW.PrintWords Go.Proofs.YtgpepiefojjkaaaW.PrintLast Go.Proofs.YtgpepiefojjkaaaW.PrintMore Go.Proofs.Ytgpepiefojjkaaa.ZPts
set_option linter.unusedVariables false
set_option linter.unusedSimpArgs false

theorem At_f (s : ByteArray) (a : Nat) (h : a ≤ s.size) : zelligeref22_At.f s (a : Int) = some (a : Int) := by
  unfold zelligeref22_At.f
  rw [if_neg (by omega), if_neg (by omega)]
/-- How far any of the words goes. -/
def mxS (t : List Int) : List (List Int) → Nat → Nat
  | [], f => f
  | w :: ws, f => mxS t ws (max f (cpl t w))
theorem mxS_le (t : List Int) (ws : List (List Int)) (f : Nat) (h : f ≤ t.length) : mxS t ws f ≤ t.length := by
  induction ws generalizing f with
  | nil => exact h
  | cons w ws ih =>
    have := cpl_le1 t w
    exact ih _ (by omega)
theorem mxS_any (t : List Int) (ws : List (List Int)) (f n : Nat) : n < mxS t ws f ↔ n < f ∨ ws.any (fun w => decide (n + 1 ≤ cpl t w)) = true := by
  induction ws generalizing f with
  | nil => simp [mxS]
  | cons w ws ih =>
    simp only [mxS, ih, List.any_cons, Bool.or_eq_true, decide_eq_true_eq]
    by_cases h : n + 1 ≤ cpl t w
    · simp only [h, true_or, or_true, iff_true]
      left; omega
    · simp only [h, false_or]
      have : n < max f (cpl t w) ↔ n < f := by omega
      rw [this]
theorem mxS_snoc (t : List Int) (ws : List (List Int)) (w : List Int) (f : Nat) : mxS t (ws ++ [w]) f = max (mxS t ws f) (cpl t w) := by
  induction ws generalizing f with
  | nil => rfl
  | cons x xs ih => exact ih _
theorem any_drop (t : List Int) (ws : List ByteArray) (n j : Nat) (h : j < ws.length) : ((ws.drop j).map bytesOf).any (fun w => decide (n + 1 ≤ cpl t w)) = (decide (n + 1 ≤ cpl t (bytesOf ws[j])) || ((ws.drop (j + 1)).map bytesOf).any (fun w => decide (n + 1 ≤ cpl t w))) := by
  rw [List.drop_eq_getElem_cons h]
  rfl
theorem RWords_l2 (s : ByteArray) (hs : s.size < 1099511627776) (a : Nat) (ha : a ≤ s.size) (ws : List ByteArray) (hw : ws.length < 1000) (hz : ∀ w ∈ ws, w.size < 1000) (n : Nat) (hn : a + n < s.size) (r : Int × Int × Bool) : ∀ (d j : Nat) (on : Bool), ws.length - j = d →
    ((on || ((ws.drop j).map bytesOf).any (fun w => decide (n + 1 ≤ cpl ((bytesOf s).drop a) w))) = true → Ev (fun k => zelligeref22_Words.l1 k s (a : Int) ws ((n + 1 : Nat) : Int)) r) →
    ((on || ((ws.drop j).map bytesOf).any (fun w => decide (n + 1 ≤ cpl ((bytesOf s).drop a) w))) = false → r = (-1, ((a + n : Nat) : Int), false)) →
    Ev (fun k => zelligeref22_Words.l2 k s (a : Int) ws (n : Int) on (j : Int)) r := by
  have hl := drop_len s a
  intro d
  induction d with
  | zero =>
    intro j on hd h1 h2
    have e : ws.drop j = [] := List.drop_of_length_le (by omega)
    rw [e] at h1 h2
    simp only [List.map_nil, List.any_nil, Bool.or_false] at h1 h2
    cases on
    · rw [h2 rfl]
      refine Ev.step (f := fun _ => some _) (fun k => ?_) (Ev.now _)
      show zelligeref22_Words.l2 (k + 1) _ _ _ _ _ _ = _
      simp only [zelligeref22_Words.l2]
      rw [if_neg (by omega), if_neg Bool.false_ne_true, wad a n (by omega)]
    · refine Ev.step (fun k => ?_) (h1 rfl)
      show zelligeref22_Words.l2 (k + 1) _ _ _ _ _ _ = _
      simp only [zelligeref22_Words.l2]
      rw [if_neg (by omega), if_pos trivial, wsz n (by omega)]
  | succ d ih =>
    intro j on hd h1 h2
    have hj : j < ws.length := by omega
    have hwz := hz _ (List.getElem_mem hj)
    have hwl := bytesOf_length ws[j]
    cases on
    · have e := any_drop ((bytesOf s).drop a) ws n j hj
      rw [Bool.false_or, e] at h1 h2
      refine Ev.step (fun k => ?_) (ih (j + 1) (decide (n + 1 ≤ cpl ((bytesOf s).drop a) (bytesOf ws[j]))) (by omega) h1 h2)
      show zelligeref22_Words.l2 (k + 1) _ _ _ _ _ _ = _
      simp only [zelligeref22_Words.l2]
      rw [if_pos (by omega), wad a n (by omega), if_pos (by omega), if_neg Bool.false_ne_true, if_pos (by omega), rdOf_nat ws j hj, wsz n (by omega), wsz j (by omega), wsz (a + n) (by omega)]
      by_cases hc : ((ws[j].size : Nat) : Int) > (n : Int)
      · rw [if_pos hc, if_pos (by omega), if_pos (by omega), if_pos (by omega), if_pos (by omega), if_pos (by omega), Int.toNat_natCast, Int.toNat_natCast, Int.toNat_natCast]
        congr 1
        have g := cpl_ge ((bytesOf s).drop a) (bytesOf ws[j]) (n + 1) (by omega) (by omega)
        by_cases hx : n + 1 ≤ cpl ((bytesOf s).drop a) (bytesOf ws[j])
        · rw [decide_eq_true hx, beq_iff_eq, tl_eq, bytes_to, bytes_ext, show a + n + 1 - a = n + 1 from by omega]
          exact (g.1 hx).symm
        · rw [decide_eq_false hx, beq_eq_false_iff_ne]
          intro e2
          rw [tl_eq, bytes_to, bytes_ext, show a + n + 1 - a = n + 1 from by omega] at e2
          exact hx (g.2 e2.symm)
      · rw [if_neg hc]
        congr 1
        have := cpl_le2 ((bytesOf s).drop a) (bytesOf ws[j])
        rw [decide_eq_false (by omega)]
    · refine Ev.step (fun k => ?_) (ih (j + 1) true (by omega) (fun _ => h1 (by simp)) (fun g => by simp at g))
      show zelligeref22_Words.l2 (k + 1) _ _ _ _ _ _ = _
      simp only [zelligeref22_Words.l2]
      rw [if_pos (by omega), wad a n (by omega), if_pos (by omega), if_pos trivial, wsz j (by omega)]
theorem RWords_l1 (s : ByteArray) (hs : s.size < 1099511627776) (a : Nat) (ha : a ≤ s.size) (ws : List ByteArray) (hw : ws.length < 1000) (hz : ∀ w ∈ ws, w.size < 1000) : ∀ (d n : Nat), mxS ((bytesOf s).drop a) (ws.map bytesOf) 0 - n = d → n ≤ mxS ((bytesOf s).drop a) (ws.map bytesOf) 0 →
    Ev (fun k => zelligeref22_Words.l1 k s (a : Int) ws (n : Int)) (-1, ((a + mxS ((bytesOf s).drop a) (ws.map bytesOf) 0 : Nat) : Int), false) := by
  have hl := drop_len s a
  have hm := mxS_le ((bytesOf s).drop a) (ws.map bytesOf) 0 (Nat.zero_le _)
  have ent : ∀ (n : Nat), n ≤ s.size - a → ∀ k, zelligeref22_Words.l1 (k + 1) s (a : Int) ws (n : Int) = zelligeref22_Words.l2 k s (a : Int) ws (n : Int) false 0 := by
    intro n hn k
    simp only [zelligeref22_Words.l1]
    rw [if_pos (by unfold wrap64; omega)]
  have fin : Ev (fun k => zelligeref22_Words.l1 k s (a : Int) ws ((mxS ((bytesOf s).drop a) (ws.map bytesOf) 0 : Nat) : Int)) (-1, ((a + mxS ((bytesOf s).drop a) (ws.map bytesOf) 0 : Nat) : Int), false) := by
    have ha2 := mxS_any ((bytesOf s).drop a) (ws.map bytesOf) 0 (mxS ((bytesOf s).drop a) (ws.map bytesOf) 0)
    generalize mxS ((bytesOf s).drop a) (ws.map bytesOf) 0 = M at *
    refine Ev.step (fun k => ent M (by omega) k) ?_
    by_cases hc : a + M < s.size
    · refine RWords_l2 s hs a ha ws hw hz M hc _ ws.length 0 false rfl (fun g => ?_) (fun _ => rfl)
      rw [List.drop_zero, Bool.false_or] at g
      exact absurd (ha2.2 (.inr g)) (by omega)
    · refine Ev.step (f := fun _ => some _) (fun k => ?_) (Ev.now _)
      show zelligeref22_Words.l2 (k + 1) _ _ _ _ _ _ = _
      simp only [zelligeref22_Words.l2]
      rw [wad a M (by omega)]
      by_cases h0 : (0 : Int) < (ws.length : Int)
      · rw [if_pos h0, if_neg (by omega), if_neg Bool.false_ne_true]
      · rw [if_neg h0, if_neg Bool.false_ne_true]
  intro d
  induction d with
  | zero =>
    intro n hd hn
    obtain rfl : n = mxS ((bytesOf s).drop a) (ws.map bytesOf) 0 := by omega
    exact fin
  | succ d ih =>
    intro n hd hn
    have ha2 := mxS_any ((bytesOf s).drop a) (ws.map bytesOf) 0 n
    refine Ev.step (fun k => ent n (by omega) k) ?_
    refine RWords_l2 s hs a ha ws hw hz n (by omega) _ ws.length 0 false rfl (fun g => ih (n + 1) (by omega) (by omega)) (fun g => ?_)
    rw [List.drop_zero, Bool.false_or] at g
    rcases ha2.1 (by omega) with h | h
    · omega
    · rw [h] at g; cases g
theorem RWords_l0 (s : ByteArray) (hs : s.size < 1099511627776) (a : Nat) (ha : a ≤ s.size) (ws : List ByteArray) (hw : ws.length < 1000) (hz : ∀ w ∈ ws, w.size < 1000) : ∀ (d j : Nat), ws.length - j = d → j ≤ ws.length →
    Ev (fun k => zelligeref22_Words.l0 k s (a : Int) ws (j : Int)) (W3 a (wordsS ((bytesOf s).drop a) ((ws.drop j).map bytesOf) (j : Int) (mxS ((bytesOf s).drop a) ((ws.take j).map bytesOf) 0))) := by
  have hl := drop_len s a
  intro d
  induction d with
  | zero =>
    intro j hd hj
    obtain rfl : j = ws.length := by omega
    rw [List.drop_length, List.take_length]
    refine Ev.step (fun k => ?_) (RWords_l1 s hs a ha ws hw hz _ 0 rfl (Nat.zero_le _))
    show zelligeref22_Words.l0 (k + 1) _ _ _ _ = _
    simp only [zelligeref22_Words.l0]
    rw [if_neg (by omega)]
    rfl
  | succ d ih =>
    intro j hd hj
    have hj : j < ws.length := by omega
    have hwz := hz _ (List.getElem_mem hj)
    have hwl := bytesOf_length ws[j]
    have hc := cpl_le1 ((bytesOf s).drop a) (bytesOf ws[j])
    have hc2 := cpl_le2 ((bytesOf s).drop a) (bytesOf ws[j])
    have e1 : (ws.drop j).map bytesOf = bytesOf ws[j] :: (ws.drop (j + 1)).map bytesOf := by rw [List.drop_eq_getElem_cons hj]; rfl
    have e2 : mxS ((bytesOf s).drop a) ((ws.take (j + 1)).map bytesOf) 0 = max (mxS ((bytesOf s).drop a) ((ws.take j).map bytesOf) 0) (cpl ((bytesOf s).drop a) (bytesOf ws[j])) := by
      rw [List.take_succ_eq_append_getElem hj, List.map_append]
      exact mxS_snoc _ _ _ _
    have nx := ih (j + 1) (by omega) (by omega)
    rw [e2] at nx
    rw [e1]
    simp only [wordsS]
    have g := cpl_ge ((bytesOf s).drop a) (bytesOf ws[j])
    have st : ∀ k, zelligeref22_Words.l0 (k + 1) s (a : Int) ws (j : Int) = if cpl ((bytesOf s).drop a) (bytesOf ws[j]) = (bytesOf ws[j]).length then some ((j : Int), ((a + (bytesOf ws[j]).length : Nat) : Int), true) else zelligeref22_Words.l0 k s (a : Int) ws ((j + 1 : Nat) : Int) := by
      intro k
      simp only [zelligeref22_Words.l0]
      rw [if_pos (by omega), if_pos (by omega), rdOf_nat ws j hj, wad a _ (by omega), wsz j (by omega)]
      by_cases hx : ((a + ws[j].size : Nat) : Int) ≤ (s.size : Int)
      · rw [if_pos hx, if_pos (by omega), if_pos (by omega), Int.toNat_natCast, Int.toNat_natCast, hwl]
        have g2 := g (ws[j].size) (by omega) (by omega)
        rw [show (bytesOf ws[j]).take ws[j].size = bytesOf ws[j] from List.take_of_length_le (by omega)] at g2
        by_cases hy : cpl ((bytesOf s).drop a) (bytesOf ws[j]) = ws[j].size
        · rw [if_pos hy, if_pos]
          rw [tl_eq, bytes_ext, Nat.add_sub_cancel_left]
          exact g2.1 (by omega)
        · rw [if_neg hy, if_neg]
          intro e3
          rw [tl_eq, bytes_ext, Nat.add_sub_cancel_left] at e3
          have := g2.2 e3
          omega
      · rw [if_neg hx, if_neg (by omega)]
    by_cases hp : cpl ((bytesOf s).drop a) (bytesOf ws[j]) = (bytesOf ws[j]).length
    · rw [if_pos hp]
      exact Ev.step (f := fun _ => some _) (fun k => by show zelligeref22_Words.l0 (k + 1) _ _ _ _ = _; rw [st k, if_pos hp]; rfl) (Ev.now _)
    · rw [if_neg hp]
      exact Ev.step (fun k => by show zelligeref22_Words.l0 (k + 1) _ _ _ _ = _; rw [st k, if_neg hp]) nx
theorem RWords_f (s : ByteArray) (hs : s.size < 1099511627776) (a : Nat) (ha : a ≤ s.size) (ws : List ByteArray) (hw : ws.length < 1000) (hz : ∀ w ∈ ws, w.size < 1000) : Ev (fun k => zelligeref22_Words.f k s (a : Int) ws) (W3 a (wordsS ((bytesOf s).drop a) (ws.map bytesOf) 0 0)) := by
  refine Ev.congr (fun k => ?_) (RWords_l0 s hs a ha ws hw hz ws.length 0 rfl (Nat.zero_le _))
  unfold zelligeref22_Words.f
  rw [At_f s a ha]
  rfl
theorem tenth (n c : Int) (hn : 0 ≤ n ∧ n ≤ 4611686018427387904) (hc : 48 ≤ c ∧ c ≤ 57) : stepN n c = if n > 461168601842738790 then 4611686018427387904 else if n = 461168601842738790 then (if c - 48 > 4 then 4611686018427387904 else 10 * n + (c - 48)) else 10 * n + (c - 48) := by
  unfold stepN
  split
  · split
    · rfl
    · split
      · split <;> omega
      · omega
  · split
    · omega
    · split
      · split <;> omega
      · rfl
theorem RNumber_j4 (s : ByteArray) (hs : s.size < 1099511627776) (neg : Bool) (p i : Nat) (hi : i < s.size) (n : Int) (hn : 0 ≤ n ∧ n ≤ 4611686018427387904) (hc : 48 ≤ bt s (i : Int) ∧ bt s (i : Int) ≤ 57) (k : Nat) : zelligeref22_Number.j4 (k + 1) s (i : Int) neg n (p : Int) true = zelligeref22_Number.l0 k s ((i + 1 : Nat) : Int) neg (stepN n (bt s (i : Int))) (p : Int) := by
  simp only [zelligeref22_Number.j4]
  have em : (bt s (i : Int) - 48) % 256 = bt s (i : Int) - 48 := by omega
  rw [if_pos trivial, if_pos (by omega), if_pos (by omega), em, wsz i (by omega), tenth n _ hn hc]
  split
  · rfl
  · rw [show wrap64 (10 * n) = 10 * n from by unfold wrap64; omega, show wrap64 (10 * n + (bt s (i : Int) - 48)) = 10 * n + (bt s (i : Int) - 48) from by unfold wrap64; omega]
    split
    · split <;> rfl
    · rfl
theorem RNumber_l0 (s : ByteArray) (hs : s.size < 1099511627776) (neg : Bool) (p : Nat) : ∀ (d i : Nat) (n : Int), s.size - i = d → i ≤ s.size → p < i → 0 ≤ n ∧ n ≤ 4611686018427387904 →
    Ev (fun k => zelligeref22_Number.l0 k s (i : Int) neg n (p : Int)) (if neg = true then -(runS ((bytesOf s).drop i) n).1 else (runS ((bytesOf s).drop i) n).1, ((i + (runS ((bytesOf s).drop i) n).2 : Nat) : Int), true) := by
  have fin : ∀ (i : Nat) (n : Int), p < i → 0 ≤ n ∧ n ≤ 4611686018427387904 → Ev (fun k => zelligeref22_Number.j4 k s (i : Int) neg n (p : Int) false) (if neg = true then -n else n, ((i : Nat) : Int), true) := by
    intro i n h hn
    refine Ev.step (f := fun _ => some _) (fun k => ?_) (Ev.now _)
    show zelligeref22_Number.j4 (k + 1) _ _ _ _ _ _ = _
    simp only [zelligeref22_Number.j4]
    rw [if_neg Bool.false_ne_true, if_neg (by omega)]
    cases neg
    · rw [if_neg Bool.false_ne_true, if_neg Bool.false_ne_true]
    · rw [if_pos rfl, if_pos rfl, show wrap64 (-n) = -n from by unfold wrap64; omega]
  intro d
  induction d with
  | zero =>
    intro i n hd hi hp hn
    have e : (bytesOf s).drop i = [] := List.drop_of_length_le (by rw [bytesOf_length]; omega)
    rw [e]
    refine Ev.step (fun k => ?_) (fin i n hp hn)
    show zelligeref22_Number.l0 (k + 1) _ _ _ _ _ = _
    simp only [zelligeref22_Number.l0]
    rw [if_neg (by omega)]
  | succ d ih =>
    intro i n hd hi hp hn
    rw [drop_bt s i (by omega)]
    have hb := bt_range s (i : Int)
    have h0 : ∀ k, zelligeref22_Number.l0 (k + 1) s (i : Int) neg n (p : Int) = zelligeref22_Number.j4 k s (i : Int) neg n (p : Int) (digB (bt s (i : Int))) := by
      intro k
      simp only [zelligeref22_Number.l0]
      rw [if_pos (by omega), if_pos (by omega)]
      unfold digB
      by_cases h1 : bt s (i : Int) ≥ 48
      · by_cases h2 : bt s (i : Int) ≤ 57
        · rw [if_pos h1, if_pos h2, if_pos (by omega), decide_eq_true (show 48 ≤ bt s (i : Int) from h1), decide_eq_true h2, Bool.true_and]
        · rw [if_pos h1, if_neg h2, decide_eq_false h2, Bool.and_false]
      · rw [if_neg h1, decide_eq_false (show ¬ 48 ≤ bt s (i : Int) from h1), Bool.false_and]
    simp only [runS]
    by_cases hg : digB (bt s (i : Int)) = true
    · rw [if_pos hg]
      have hc : 48 ≤ bt s (i : Int) ∧ bt s (i : Int) ≤ 57 := by simpa [digB] using hg
      have hr : 0 ≤ stepN n (bt s (i : Int)) ∧ stepN n (bt s (i : Int)) ≤ 4611686018427387904 := by
        unfold stepN
        split <;> omega
      refine Ev.step (f := fun k => zelligeref22_Number.j4 k s (i : Int) neg n (p : Int) true) (fun k => by show zelligeref22_Number.l0 (k + 1) _ _ _ _ _ = _; rw [h0 k, hg]) ?_
      refine Ev.step (fun k => RNumber_j4 s hs neg p i (by omega) n hn hc k) ?_
      have := ih (i + 1) _ (by omega) (by omega) (by omega) hr
      rw [show i + ((runS ((bytesOf s).drop (i + 1)) (stepN n (bt s (i : Int)))).2 + 1) = i + 1 + (runS ((bytesOf s).drop (i + 1)) (stepN n (bt s (i : Int)))).2 from by omega]
      exact this
    · rw [if_neg hg]
      have hg' : digB (bt s (i : Int)) = false := by simpa using hg
      exact Ev.step (fun k => by show zelligeref22_Number.l0 (k + 1) _ _ _ _ _ = _; rw [h0 k, hg']) (fin i n hp hn)
theorem RNumber_j1 (s : ByteArray) (hs : s.size < 1099511627776) (neg : Bool) (i : Nat) (hi : i ≤ s.size) : Ev (fun k => zelligeref22_Number.j1 k s (i : Int) neg) (W3 i (numU neg ((bytesOf s).drop i))) := by
  have fin : Ev (fun k => zelligeref22_Number.j4 k s (i : Int) neg 0 (i : Int) false) (0, (i : Int), false) := by
    refine Ev.step (f := fun _ => some _) (fun k => ?_) (Ev.now _)
    show zelligeref22_Number.j4 (k + 1) _ _ _ _ _ _ = _
    simp only [zelligeref22_Number.j4]
    rw [if_neg Bool.false_ne_true, if_pos trivial]
  have j2f : ∀ {r}, Ev (fun k => zelligeref22_Number.l0 k s (i : Int) neg 0 (i : Int)) r → Ev (fun k => zelligeref22_Number.j2 k s (i : Int) neg false) r := by
    intro r h
    refine Ev.step (fun k => ?_) h
    show zelligeref22_Number.j2 (k + 1) _ _ _ _ = _
    simp only [zelligeref22_Number.j2]
    rw [if_neg Bool.false_ne_true]
  by_cases h : i = s.size
  · have e : (bytesOf s).drop i = [] := List.drop_of_length_le (by rw [bytesOf_length]; omega)
    rw [e]
    refine Ev.step (fun k => ?_) (j2f (Ev.step (fun k => ?_) fin))
    · show zelligeref22_Number.j1 (k + 1) _ _ _ = _
      simp only [zelligeref22_Number.j1]
      rw [if_neg (by omega)]
    · show zelligeref22_Number.l0 (k + 1) _ _ _ _ _ = _
      simp only [zelligeref22_Number.l0]
      rw [if_neg (by omega)]
  · have hb := bt_range s (i : Int)
    have e := drop_bt s i (by omega)
    have h0 : ∀ k, zelligeref22_Number.l0 (k + 1) s (i : Int) neg 0 (i : Int) = zelligeref22_Number.j4 k s (i : Int) neg 0 (i : Int) (digB (bt s (i : Int)) && (bt s (i : Int) != 48)) := by
      intro k
      simp only [zelligeref22_Number.l0]
      rw [if_pos (by omega), if_pos (by omega)]
      unfold digB
      by_cases h1 : bt s (i : Int) ≥ 48
      · by_cases h2 : bt s (i : Int) ≤ 57
        · rw [if_pos h1, if_pos h2, if_neg (by omega), decide_eq_true (show 48 ≤ bt s (i : Int) from h1), decide_eq_true h2, Bool.true_and, Bool.true_and]
        · rw [if_pos h1, if_neg h2, decide_eq_false h2, Bool.and_false, Bool.false_and]
      · rw [if_neg h1, decide_eq_false (show ¬ 48 ≤ bt s (i : Int) from h1), Bool.false_and, Bool.false_and]
    rw [e]
    simp only [numU]
    have h1 : ∀ k, zelligeref22_Number.j1 (k + 1) s (i : Int) neg = zelligeref22_Number.j2 k s (i : Int) neg (decide (bt s (i : Int) = 48) && !neg) := by
      intro k
      simp only [zelligeref22_Number.j1]
      rw [if_pos (by omega), if_pos (by omega)]
      by_cases h48 : bt s (i : Int) = 48
      · rw [if_pos h48, decide_eq_true h48, Bool.true_and]
      · rw [if_neg h48, decide_eq_false h48, Bool.false_and]
    by_cases h48 : bt s (i : Int) = 48
    · have hd : digB (bt s (i : Int)) = true := by rw [h48]; rfl
      cases neg
      · rw [if_neg (by simp [hd]), if_pos h48]
        refine Ev.step (fun k => h1 k) ?_
        rw [decide_eq_true h48]
        refine Ev.step (f := fun _ => some _) (fun k => ?_) (Ev.now _)
        show zelligeref22_Number.j2 (k + 1) _ _ _ true = _
        simp only [zelligeref22_Number.j2]
        rw [if_pos trivial, wsz i (by omega)]
        rfl
      · rw [if_pos (.inr ⟨rfl, h48⟩)]
        refine Ev.step (fun k => h1 k) ?_
        rw [Bool.not_true, Bool.and_false]
        refine j2f (Ev.step (fun k => ?_) fin)
        show zelligeref22_Number.l0 (k + 1) _ _ _ _ _ = _
        rw [h0 k, h48]
        rfl
    · refine Ev.step (fun k => h1 k) ?_
      rw [decide_eq_false h48, Bool.false_and]
      refine j2f ?_
      refine Ev.step (fun k => h0 k) ?_
      have hn48 : (bt s (i : Int) != 48) = true := by simpa using h48
      rw [hn48, Bool.and_true]
      by_cases hd : digB (bt s (i : Int)) = true
      · have hc : 48 ≤ bt s (i : Int) ∧ bt s (i : Int) ≤ 57 := by simpa [digB] using hd
        rw [if_neg (by simp [hd, h48]), if_neg h48, hd]
        have hr : 0 ≤ stepN 0 (bt s (i : Int)) ∧ stepN 0 (bt s (i : Int)) ≤ 4611686018427387904 := by
          unfold stepN
          split <;> omega
        refine Ev.step (fun k => RNumber_j4 s hs neg i i (by omega) 0 (by omega) hc k) ?_
        have := RNumber_l0 s hs neg i _ (i + 1) _ rfl (by omega) (by omega) hr
        have e2 : runS (bt s (i : Int) :: (bytesOf s).drop (i + 1)) 0 = ((runS ((bytesOf s).drop (i + 1)) (stepN 0 (bt s (i : Int)))).1, (runS ((bytesOf s).drop (i + 1)) (stepN 0 (bt s (i : Int)))).2 + 1) := by
          simp only [runS]
          rw [if_pos hd]
        rw [e2]
        simp only [W3]
        rw [show i + ((runS ((bytesOf s).drop (i + 1)) (stepN 0 (bt s (i : Int)))).2 + 1) = i + 1 + (runS ((bytesOf s).drop (i + 1)) (stepN 0 (bt s (i : Int)))).2 from by omega]
        exact this
      · have hd' : digB (bt s (i : Int)) = false := by simpa using hd
        rw [if_pos (.inl hd'), hd']
        exact fin
theorem RNumber_f (s : ByteArray) (hs : s.size < 1099511627776) (b : Bool) (a : Nat) (ha : a ≤ s.size) : Ev (fun k => zelligeref22_Number.f k s (a : Int) b) (W3 a (numS b ((bytesOf s).drop a))) := by
  have plain : (∀ c cs, (bytesOf s).drop a = c :: cs → ¬ (b = true ∧ c = 45)) → Ev (fun k => zelligeref22_Number.j0 k s (a : Int) false false) (W3 a (numS b ((bytesOf s).drop a))) := by
    intro h
    have e : numS b ((bytesOf s).drop a) = numU false ((bytesOf s).drop a) := by
      cases hx : (bytesOf s).drop a with
      | nil => rfl
      | cons c cs =>
        simp only [numS]
        rw [if_neg (h c cs hx)]
    rw [e]
    refine Ev.step (fun k => ?_) (RNumber_j1 s hs false a ha)
    show zelligeref22_Number.j0 (k + 1) _ _ _ _ = _
    simp only [zelligeref22_Number.j0]
    rw [if_neg Bool.false_ne_true]
  cases b
  · refine Ev.congr (fun k => ?_) (plain (fun c cs _ g => Bool.false_ne_true g.1))
    unfold zelligeref22_Number.f
    rw [At_f s a ha, Option.bind_some, if_neg Bool.false_ne_true]
  · by_cases h : a < s.size
    · have e := drop_bt s a h
      by_cases hm : bt s (a : Int) = 45
      · refine Ev.congr (f := fun k => zelligeref22_Number.j0 k s (a : Int) false true) (fun k => ?_) (Ev.step (fun k => ?_) (show Ev (fun k => zelligeref22_Number.j1 k s ((a + 1 : Nat) : Int) true) _ from ?_))
        · unfold zelligeref22_Number.f
          rw [At_f s a ha, Option.bind_some, if_pos rfl, if_pos (by omega), if_pos (by omega), hm]
          rfl
        · show zelligeref22_Number.j0 (k + 1) _ _ _ _ = _
          simp only [zelligeref22_Number.j0]
          rw [if_pos trivial, wsz a (by omega)]
        · have := RNumber_j1 s hs true (a + 1) h
          rw [e]
          simp only [numS]
          rw [if_pos ⟨trivial, hm⟩]
          simp only [W3] at this ⊢
          rw [← Nat.add_assoc]
          exact this
      · refine Ev.congr (fun k => ?_) (plain (fun c cs e2 g => ?_))
        · unfold zelligeref22_Number.f
          rw [At_f s a ha, Option.bind_some, if_pos rfl, if_pos (by omega), if_pos (by omega), show (bt s (a : Int) == 45) = false from by simpa using hm]
        · rw [e] at e2
          injection e2 with e3
          exact hm (e3.trans g.2)
    · refine Ev.congr (fun k => ?_) (plain (fun c cs e2 g => ?_))
      · unfold zelligeref22_Number.f
        rw [At_f s a ha, Option.bind_some, if_pos rfl, if_neg (by omega)]
      · rw [List.drop_of_length_le (by rw [bytesOf_length]; omega)] at e2
        cases e2
end Go.Proofs.Ytgpepiefojjkaaa.Pt
