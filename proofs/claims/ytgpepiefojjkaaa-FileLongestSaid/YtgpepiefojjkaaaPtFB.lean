/- What the printed readers of texts come to, told of bytes: words and numbers, the program's and the reference's. -/
import Derived.Test.YtgpepiefojjkaaaPtA
import Derived.Test.YtgpepiefojjkaaaZFilx12
namespace Go.Proofs.Ytgpepiefojjkaaa.Pt
open Go.RowKit Go.Proofs.YtgpepiefojjkaaaW.PrintWords Go.Proofs.YtgpepiefojjkaaaW.PrintLast Go.Proofs.YtgpepiefojjkaaaW.PrintMore Go.Proofs.Ytgpepiefojjkaaa.ZFil
set_option linter.unusedVariables false
set_option linter.unusedSimpArgs false
theorem tl_loop (s : ByteArray) : ∀ (d i : Nat) (r : List UInt8), s.size - i = d → ByteArray.toList.loop s i r = r.reverse ++ s.data.toList.drop i := by
  intro d
  induction d with
  | zero =>
    intro i r h
    rw [ByteArray.toList.loop, if_neg (by omega), List.drop_of_length_le (by rw [data_length]; omega), List.append_nil]
  | succ d ih =>
    intro i r h
    have hi : i < s.data.toList.length := by rw [data_length]; omega
    rw [ByteArray.toList.loop, if_pos (by omega), ih _ _ (by omega), List.drop_eq_getElem_cons hi, List.reverse_cons, List.append_assoc, List.singleton_append]
    congr 2
    have h2 : i < s.data.size := by rw [← Array.length_toList]; exact hi
    show s.get! i = _
    cases s with
    | mk a => simp only [ByteArray.get!]; simp at h2; simp [h2]
theorem tl_data (s : ByteArray) : s.toList = s.data.toList := by
  unfold ByteArray.toList
  rw [tl_loop s _ 0 [] rfl]
  simp
theorem tl_eq (s t : ByteArray) : s.toList = t.toList ↔ bytesOf s = bytesOf t := by
  rw [tl_data, tl_data]
  unfold bytesOf
  constructor
  · intro h; rw [h]
  · intro h
    refine (List.map_inj_right ?_).1 h
    intro a b hab
    exact UInt8.toNat_inj.1 (Int.ofNat_inj.1 hab)
theorem bytes_ext (s : ByteArray) (i j : Nat) : bytesOf (s.extract i j) = ((bytesOf s).drop i).take (j - i) := by
  unfold bytesOf
  rw [ByteArray.data_extract, Array.toList_extract, List.map_take, List.map_drop]
theorem bytes_from (s : ByteArray) (i : Nat) : bytesOf (s.extract i s.size) = (bytesOf s).drop i := by
  rw [bytes_ext, List.take_of_length_le (by rw [List.length_drop, bytesOf_length]; omega)]
theorem bytes_to (s : ByteArray) (i : Nat) : bytesOf (s.extract 0 i) = (bytesOf s).take i := by
  rw [bytes_ext, List.drop_zero, Nat.sub_zero]
theorem bt_get (s : ByteArray) (i : Nat) : bt s (i : Int) = (bytesOf s).getD i 0 := by
  rw [← rd_bytesOf]
  simp [rd]
theorem drop_bt (s : ByteArray) (i : Nat) (h : i < s.size) : (bytesOf s).drop i = bt s (i : Int) :: (bytesOf s).drop (i + 1) := by
  have hl : i < (bytesOf s).length := by rw [bytesOf_length]; exact h
  rw [List.drop_eq_getElem_cons hl, bt_get, List.getD_eq_getElem?_getD, List.getElem?_eq_getElem hl]
  rfl
theorem drop_len (s : ByteArray) (i : Nat) : ((bytesOf s).drop i).length = s.size - i := by rw [List.length_drop, bytesOf_length]
theorem wsz (n : Nat) (h : n < 9223372036854775807) : wrap64 ((n : Int) + 1) = ((n + 1 : Nat) : Int) := by unfold wrap64; omega
theorem wad (a b : Nat) (h : a + b < 9223372036854775807) : wrap64 ((a : Int) + (b : Int)) = ((a + b : Nat) : Int) := by unfold wrap64; omega

theorem within_f (s : ByteArray) (a : Nat) (h : a ≤ s.size) : lex_within.f s (a : Int) = some (a : Int) := by
  unfold lex_within.f mx mn
  congr 1
  split <;> split <;> omega
theorem pref_f (x w : ByteArray) : strings_HasPrefix.f x w = some (decide (cpl (bytesOf x) (bytesOf w) = (bytesOf w).length)) := by
  unfold strings_HasPrefix.f stringslite_HasPrefix.f
  have h1 := cpl_le1 (bytesOf x) (bytesOf w)
  have lx := bytesOf_length x
  have lw := bytesOf_length w
  by_cases h : (x.size : Int) ≥ (w.size : Int)
  · rw [if_pos h, if_pos (by omega), if_pos (by omega), Option.bind_some]
    congr 1
    have e : (((w.size : Int) : Int).toNat) = w.size := by omega
    rw [e]
    have g := cpl_ge (bytesOf x) (bytesOf w) w.size (by omega) (by omega)
    have g2 := cpl_le2 (bytesOf x) (bytesOf w)
    rw [show (bytesOf w).take w.size = bytesOf w from List.take_of_length_le (by omega)] at g
    by_cases hc : cpl (bytesOf x) (bytesOf w) = (bytesOf w).length
    · rw [decide_eq_true hc]
      have := g.1 (by omega)
      rw [beq_iff_eq, tl_eq, bytes_to]
      exact this
    · rw [decide_eq_false hc, beq_eq_false_iff_ne]
      intro e2
      rw [tl_eq, bytes_to] at e2
      have := g.2 e2
      omega
  · rw [if_neg h, Option.bind_some, decide_eq_false (by omega)]
theorem common_l0 (x w : ByteArray) (hx : x.size < 1099511627776) : ∀ (d i : Nat), cpl (bytesOf x) (bytesOf w) - i = d → i ≤ cpl (bytesOf x) (bytesOf w) → Ev (fun k => lex_common.l0 k x w (i : Int)) ((cpl (bytesOf x) (bytesOf w) : Nat) : Int) := by
  have h1 := cpl_le1 (bytesOf x) (bytesOf w)
  have h2 := cpl_le2 (bytesOf x) (bytesOf w)
  have lx := bytesOf_length x
  have lw := bytesOf_length w
  intro d
  induction d with
  | zero =>
    intro i hd hi
    obtain rfl : i = cpl (bytesOf x) (bytesOf w) := by omega
    refine Ev.step (f := fun _ => some _) (fun k => ?_) (Ev.now _)
    simp only [lex_common.l0]
    by_cases g1 : cpl (bytesOf x) (bytesOf w) < (bytesOf x).length
    · rw [if_pos (by omega)]
      by_cases g2 : cpl (bytesOf x) (bytesOf w) < (bytesOf w).length
      · have := cpl_ne _ _ g1 g2
        rw [if_pos (by omega), if_pos (by omega), if_neg (by rw [bt_get, bt_get]; exact this)]
      · rw [if_neg (by omega)]
    · rw [if_neg (by omega)]
  | succ d ih =>
    intro i hd hi
    refine Ev.step (fun k => ?_) (ih (i + 1) (by omega) (by omega))
    have := cpl_eq (bytesOf x) (bytesOf w) i (by omega)
    show lex_common.l0 (k + 1) x w (i : Int) = _
    simp only [lex_common.l0]
    rw [if_pos (by omega), if_pos (by omega), if_pos (by omega), if_pos (by rw [bt_get, bt_get]; exact this), wsz i (by omega)]
theorem common_f (x w : ByteArray) (hx : x.size < 1099511627776) : Ev (fun k => lex_common.f k x w) ((cpl (bytesOf x) (bytesOf w) : Nat) : Int) := common_l0 x w hx _ 0 rfl (Nat.zero_le _)
/-- A place, as Go tells it. -/
def W3 (a : Nat) (r : Int × Nat × Bool) : Int × Int × Bool := (r.1, ((a + r.2.1 : Nat) : Int), r.2.2)
theorem rdOf_nat (ws : List ByteArray) (j : Nat) (h : j < ws.length) : rdOf ByteArray.empty ws (j : Int) = ws[j] := by
  unfold rdOf
  rw [Int.toNat_natCast, List.getD_eq_getElem?_getD, List.getElem?_eq_getElem h]
  rfl
theorem Words_l0 (s : ByteArray) (hs : s.size < 1099511627776) (a : Nat) (ha : a ≤ s.size) (ws : List ByteArray) (hw : ws.length < 1000) : ∀ (d j far : Nat), ws.length - j = d → far ≤ s.size - a →
    Ev (fun k => lex_Words.l0 k s (a : Int) (far : Int) ws (ws.length : Int) (j : Int)) (W3 a (wordsS ((bytesOf s).drop a) ((ws.drop j).map bytesOf) (j : Int) far)) := by
  have hl := drop_len s a
  intro d
  induction d with
  | zero =>
    intro j far hd hf
    refine Ev.step (f := fun _ => some _) (fun k => ?_) (Ev.now _)
    simp only [lex_Words.l0]
    have e : ws.drop j = [] := List.drop_of_length_le (by omega)
    rw [if_neg (by omega), e, wad a far (by omega)]
    rfl
  | succ d ih =>
    intro j far hd hf
    have hj : j < ws.length := by omega
    have e1 : (ws.drop j).map bytesOf = bytesOf ws[j] :: (ws.drop (j + 1)).map bytesOf := by rw [List.drop_eq_getElem_cons hj]; rfl
    have hc := cpl_le1 ((bytesOf s).drop a) (bytesOf ws[j])
    have hc2 := bytesOf_length ws[j]
    have base : ∀ k, lex_Words.l0 (k + 1) s (a : Int) (far : Int) ws (ws.length : Int) (j : Int) = if decide (cpl ((bytesOf s).drop a) (bytesOf ws[j]) = (bytesOf ws[j]).length) = true then some ((j : Int), wrap64 ((a : Int) + (ws[j].size : Int)), true) else (lex_common.f k (s.extract a s.size) ws[j]).bind fun t => lex_Words.l0 k s (a : Int) (mx (far : Int) t) ws (ws.length : Int) (wrap64 ((j : Int) + 1)) := by
      intro k
      simp only [lex_Words.l0]
      rw [if_pos (by omega), if_pos (by omega), if_pos (by omega), if_pos (by omega), if_pos (by omega), Int.toNat_natCast, rdOf_nat ws j hj, pref_f, bytes_from, Option.bind_some]
    rw [e1]
    simp only [wordsS]
    by_cases hp : cpl ((bytesOf s).drop a) (bytesOf ws[j]) = (bytesOf ws[j]).length
    · rw [if_pos hp]
      refine Ev.step (f := fun _ => some _) (fun k => ?_) (Ev.now _)
      rw [base k, if_pos (decide_eq_true hp), wad a _ (by omega), ← hc2]
      rfl
    · rw [if_neg hp]
      refine Ev.step (fun k => ?_) (Ev.bind (f := fun k t => lex_Words.l0 k s (a : Int) (mx (far : Int) t) ws (ws.length : Int) (wrap64 ((j : Int) + 1))) (common_f (s.extract a s.size) ws[j] ?_) ?_)
      · show lex_Words.l0 (k + 1) s _ _ ws _ _ = _
        rw [base k, if_neg (by rw [decide_eq_false hp]; exact Bool.false_ne_true)]
      · have := bytesOf_length (s.extract a s.size)
        rw [bytes_from, hl] at this
        omega
      · rw [bytes_from]
        have em : mx (far : Int) ((cpl ((bytesOf s).drop a) (bytesOf ws[j]) : Nat) : Int) = ((max far (cpl ((bytesOf s).drop a) (bytesOf ws[j])) : Nat) : Int) := by unfold mx; split <;> omega
        rw [em, wsz j (by omega)]
        exact ih (j + 1) _ (by omega) (by omega)
theorem Words_f (s : ByteArray) (hs : s.size < 1099511627776) (a : Nat) (ha : a ≤ s.size) (ws : List ByteArray) (hw : ws.length < 1000) : Ev (fun k => lex_Words.f k s (a : Int) ws) (W3 a (wordsS ((bytesOf s).drop a) (ws.map bytesOf) 0 0)) := by
  refine Ev.congr (fun k => ?_) (Words_l0 s hs a ha ws hw ws.length 0 0 rfl (Nat.zero_le _))
  unfold lex_Words.f
  rw [within_f s a ha]
  rfl
theorem digit_f (c : Int) : lex_digit.f c = some (digB c) := by
  unfold lex_digit.f digB
  by_cases h : c ≥ 48
  · rw [if_pos h, decide_eq_true (show 48 ≤ c from h), Bool.true_and]
  · rw [if_neg h, decide_eq_false (show ¬ 48 ≤ c from h), Bool.false_and]
theorem Number_l0 (s : ByteArray) (hs : s.size < 1099511627776) (neg : Bool) : ∀ (d i : Nat) (n : Int), s.size - i = d → i ≤ s.size → 0 ≤ n ∧ n ≤ 4611686018427387904 →
    Ev (fun k => lex_Number.l0 k s (i : Int) neg n) (if neg = true then -(runS ((bytesOf s).drop i) n).1 else (runS ((bytesOf s).drop i) n).1, ((i + (runS ((bytesOf s).drop i) n).2 : Nat) : Int), true) := by
  intro d
  induction d with
  | zero =>
    intro i n hd hi hn
    have e : (bytesOf s).drop i = [] := List.drop_of_length_le (by rw [bytesOf_length]; omega)
    rw [e]
    simp only [runS]
    refine Ev.step (f := fun k => lex_Number.j4 k s (i : Int) neg n false) (fun k => ?_) (Ev.step (f := fun _ => some _) (fun k => ?_) (Ev.now _))
    · show lex_Number.l0 (k + 1) s _ _ _ = _
      simp only [lex_Number.l0]
      rw [if_neg (by omega)]
    · show lex_Number.j4 (k + 1) s _ _ _ _ = _
      simp only [lex_Number.j4]
      rw [if_neg Bool.false_ne_true]
      cases neg
      · rw [if_neg Bool.false_ne_true, if_neg Bool.false_ne_true]; rfl
      · rw [if_pos rfl, if_pos rfl, show wrap64 (-n) = -n from by unfold wrap64; omega]; rfl
  | succ d ih =>
    intro i n hd hi hn
    rw [drop_bt s i (by omega)]
    have hb := bt_range s (i : Int)
    have h0 : ∀ k, lex_Number.l0 (k + 1) s (i : Int) neg n = lex_Number.j4 k s (i : Int) neg n (digB (bt s (i : Int))) := by
      intro k
      simp only [lex_Number.l0]
      rw [if_pos (by omega), if_pos (by omega), digit_f, Option.bind_some]
    simp only [runS]
    by_cases hg : digB (bt s (i : Int)) = true
    · rw [if_pos hg]
      have hc : 48 ≤ bt s (i : Int) ∧ bt s (i : Int) ≤ 57 := by simpa [digB] using hg
      have em : (bt s (i : Int) - 48) % 256 = bt s (i : Int) - 48 := by omega
      have hr : 0 ≤ stepN n (bt s (i : Int)) ∧ stepN n (bt s (i : Int)) ≤ 4611686018427387904 := by
        unfold stepN
        split <;> omega
      refine Ev.step (f := fun k => lex_Number.j4 k s (i : Int) neg n true) (fun k => by show lex_Number.l0 (k + 1) s _ _ _ = _; rw [h0 k, hg]) ?_
      refine Ev.step (fun k => ?_) (show Ev (fun k => lex_Number.l0 k s ((i + 1 : Nat) : Int) neg (stepN n (bt s (i : Int)))) _ from ?_)
      · show lex_Number.j4 (k + 1) s _ _ _ _ = _
        simp only [lex_Number.j4]
        rw [if_pos trivial, if_pos (by omega), if_pos (by omega), em, wsz i (by omega)]
        unfold stepN
        split
        · rfl
        · rename_i hx
          rw [show wrap64 (10 * n) = 10 * n from by unfold wrap64; omega, show wrap64 (10 * n + (bt s (i : Int) - 48)) = 10 * n + (bt s (i : Int) - 48) from by unfold wrap64; omega]
      · have := ih (i + 1) _ (by omega) (by omega) hr
        rw [show i + ((runS ((bytesOf s).drop (i + 1)) (stepN n (bt s (i : Int)))).2 + 1) = i + 1 + (runS ((bytesOf s).drop (i + 1)) (stepN n (bt s (i : Int)))).2 from by omega]
        exact this
    · rw [if_neg hg]
      have hg' : digB (bt s (i : Int)) = false := by simpa using hg
      refine Ev.step (f := fun k => lex_Number.j4 k s (i : Int) neg n false) (fun k => by show lex_Number.l0 (k + 1) s _ _ _ = _; rw [h0 k, hg']) (Ev.step (f := fun _ => some _) (fun k => ?_) (Ev.now _))
      show lex_Number.j4 (k + 1) s _ _ _ _ = _
      simp only [lex_Number.j4]
      rw [if_neg Bool.false_ne_true]
      cases neg
      · rw [if_neg Bool.false_ne_true, if_neg Bool.false_ne_true]; rfl
      · rw [if_pos rfl, if_pos rfl, show wrap64 (-n) = -n from by unfold wrap64; omega]; rfl
theorem Number_j1 (s : ByteArray) (hs : s.size < 1099511627776) (neg : Bool) (i : Nat) (hi : i ≤ s.size) : Ev (fun k => lex_Number.j1 k s (i : Int) neg) (W3 i (numU neg ((bytesOf s).drop i))) := by
  by_cases h : i = s.size
  · have e : (bytesOf s).drop i = [] := List.drop_of_length_le (by rw [bytesOf_length]; omega)
    rw [e]
    refine Ev.step (f := fun k => lex_Number.j2 k s (i : Int) neg true) (fun k => ?_) (Ev.step (f := fun _ => some _) (fun k => ?_) (Ev.now _))
    · show lex_Number.j1 (k + 1) s _ _ = _
      simp only [lex_Number.j1]
      rw [if_pos (by omega)]
    · show lex_Number.j2 (k + 1) s _ _ _ = _
      simp only [lex_Number.j2]
      rw [if_pos trivial]
      rfl
  · have hb := bt_range s (i : Int)
    have e := drop_bt s i (by omega)
    have h1 : ∀ k, lex_Number.j1 (k + 1) s (i : Int) neg = lex_Number.j2 k s (i : Int) neg (decide (digB (bt s (i : Int)) = false ∨ (neg = true ∧ bt s (i : Int) = 48))) := by
      intro k
      simp only [lex_Number.j1]
      rw [if_neg (by omega), if_pos (by omega), if_pos (by omega), digit_f, Option.bind_some]
      cases hd : digB (bt s (i : Int))
      · simp
      · cases neg
        · simp
        · simp only [if_true]
          congr 1
          by_cases h48 : bt s (i : Int) = 48 <;> simp [h48]
    rw [e]
    simp only [numU]
    by_cases hx : digB (bt s (i : Int)) = false ∨ (neg = true ∧ bt s (i : Int) = 48)
    · rw [if_pos hx]
      refine Ev.step (f := fun k => lex_Number.j2 k s (i : Int) neg true) (fun k => ?_) (Ev.step (f := fun _ => some _) (fun k => ?_) (Ev.now _))
      · show lex_Number.j1 (k + 1) s _ _ = _
        rw [h1 k, decide_eq_true hx]
      · show lex_Number.j2 (k + 1) s _ _ _ = _
        simp only [lex_Number.j2]
        rw [if_pos trivial]
        rfl
    · rw [if_neg hx]
      refine Ev.step (f := fun k => lex_Number.j2 k s (i : Int) neg false) (fun k => ?_) ?_
      · show lex_Number.j1 (k + 1) s _ _ = _
        rw [h1 k, decide_eq_false hx]
      by_cases h48 : bt s (i : Int) = 48
      · rw [if_pos h48]
        refine Ev.step (f := fun _ => some _) (fun k => ?_) (Ev.now _)
        show lex_Number.j2 (k + 1) s _ _ _ = _
        simp only [lex_Number.j2]
        rw [if_neg Bool.false_ne_true, if_pos (by omega), if_pos (by omega), if_pos h48, wsz i (by omega)]
        rfl
      · rw [if_neg h48]
        refine Ev.step (fun k => ?_) (show Ev (fun k => lex_Number.l0 k s (i : Int) neg 0) _ from ?_)
        · show lex_Number.j2 (k + 1) s _ _ _ = _
          simp only [lex_Number.j2]
          rw [if_neg Bool.false_ne_true, if_pos (by omega), if_pos (by omega), if_neg h48]
        · have := Number_l0 s hs neg _ i 0 rfl hi (by omega)
          rw [e] at this
          exact this
theorem Number_f (s : ByteArray) (hs : s.size < 1099511627776) (b : Bool) (a : Nat) (ha : a ≤ s.size) : Ev (fun k => lex_Number.f k s (a : Int) b) (W3 a (numS b ((bytesOf s).drop a))) := by
  have plain : ∀ b' : Bool, (∀ c cs, (bytesOf s).drop a = c :: cs → ¬ (b = true ∧ c = 45)) → Ev (fun k => lex_Number.j0 k s (a : Int) false) (W3 a (numS b ((bytesOf s).drop a))) := by
    intro _ h
    have e : numS b ((bytesOf s).drop a) = numU false ((bytesOf s).drop a) := by
      cases hx : (bytesOf s).drop a with
      | nil => rfl
      | cons c cs =>
        simp only [numS]
        rw [if_neg (h c cs hx)]
    rw [e]
    refine Ev.step (fun k => ?_) (Number_j1 s hs false a ha)
    show lex_Number.j0 (k + 1) s _ _ = _
    simp only [lex_Number.j0]
    rw [if_neg Bool.false_ne_true]
  cases b
  · refine Ev.congr (fun k => ?_) (plain false (fun c cs _ g => Bool.false_ne_true g.1))
    unfold lex_Number.f
    rw [within_f s a ha, Option.bind_some, if_neg Bool.false_ne_true]
  · by_cases h : a < s.size
    · have e := drop_bt s a h
      by_cases hm : bt s (a : Int) = 45
      · refine Ev.congr (f := fun k => lex_Number.j0 k s (a : Int) true) (fun k => ?_) (Ev.step (fun k => ?_) (show Ev (fun k => lex_Number.j1 k s ((a + 1 : Nat) : Int) true) _ from ?_))
        · unfold lex_Number.f
          rw [within_f s a ha, Option.bind_some, if_pos rfl, if_pos (by omega), if_pos (by omega), hm]
          rfl
        · show lex_Number.j0 (k + 1) s _ _ = _
          simp only [lex_Number.j0]
          rw [if_pos trivial, wsz a (by omega)]
        · have := Number_j1 s hs true (a + 1) h
          rw [e]
          simp only [numS]
          rw [if_pos ⟨trivial, hm⟩]
          simp only [W3] at this ⊢
          rw [← Nat.add_assoc]
          exact this
      · refine Ev.congr (fun k => ?_) (plain false (fun c cs e2 g => ?_))
        · unfold lex_Number.f
          rw [within_f s a ha, Option.bind_some, if_pos rfl, if_pos (by omega), if_pos (by omega), show (bt s (a : Int) == 45) = false from by simpa using hm]
        · rw [e] at e2
          injection e2 with e3
          exact hm (e3.trans g.2)
    · refine Ev.congr (fun k => ?_) (plain false (fun c cs e2 g => ?_))
      · unfold lex_Number.f
        rw [within_f s a ha, Option.bind_some, if_pos rfl, if_neg (by omega)]
      · rw [List.drop_of_length_le (by rw [bytesOf_length]; omega)] at e2
        cases e2
theorem At_f (s : ByteArray) (a : Nat) (h : a ≤ s.size) : zelligeref22_At.f s (a : Int) = some (a : Int) := by
  unfold zelligeref22_At.f
  rw [if_neg (by omega), if_neg (by omega)]
/-- How far any of the words goes. -/
def mxS (t : List Int) : List (List Int) → Nat → Nat
  | [], f => f
  | w :: ws, f => mxS t ws (max f (cpl t w))
theorem mxS_le (t : List Int) (ws : List (List Int)) (f : Nat) (h : f ≤ t.length) : mxS t ws f ≤ t.length := by
  induction ws generalizing f with
  | nil => exact h
  | cons w ws ih =>
    have := cpl_le1 t w
    exact ih _ (by omega)
theorem mxS_any (t : List Int) (ws : List (List Int)) (f n : Nat) : n < mxS t ws f ↔ n < f ∨ ws.any (fun w => decide (n + 1 ≤ cpl t w)) = true := by
  induction ws generalizing f with
  | nil => simp [mxS]
  | cons w ws ih =>
    simp only [mxS, ih, List.any_cons, Bool.or_eq_true, decide_eq_true_eq]
    by_cases h : n + 1 ≤ cpl t w
    · simp only [h, true_or, or_true, iff_true]
      left; omega
    · simp only [h, false_or]
      have : n < max f (cpl t w) ↔ n < f := by omega
      rw [this]
theorem mxS_snoc (t : List Int) (ws : List (List Int)) (w : List Int) (f : Nat) : mxS t (ws ++ [w]) f = max (mxS t ws f) (cpl t w) := by
  induction ws generalizing f with
  | nil => rfl
  | cons x xs ih => exact ih _
theorem any_drop (t : List Int) (ws : List ByteArray) (n j : Nat) (h : j < ws.length) : ((ws.drop j).map bytesOf).any (fun w => decide (n + 1 ≤ cpl t w)) = (decide (n + 1 ≤ cpl t (bytesOf ws[j])) || ((ws.drop (j + 1)).map bytesOf).any (fun w => decide (n + 1 ≤ cpl t w))) := by
  rw [List.drop_eq_getElem_cons h]
  rfl
theorem RWords_l2 (s : ByteArray) (hs : s.size < 1099511627776) (a : Nat) (ha : a ≤ s.size) (ws : List ByteArray) (hw : ws.length < 1000) (hz : ∀ w ∈ ws, w.size < 1000) (n : Nat) (hn : a + n < s.size) (r : Int × Int × Bool) : ∀ (d j : Nat) (on : Bool), ws.length - j = d →
    ((on || ((ws.drop j).map bytesOf).any (fun w => decide (n + 1 ≤ cpl ((bytesOf s).drop a) w))) = true → Ev (fun k => zelligeref22_Words.l1 k s (a : Int) ws ((n + 1 : Nat) : Int)) r) →
    ((on || ((ws.drop j).map bytesOf).any (fun w => decide (n + 1 ≤ cpl ((bytesOf s).drop a) w))) = false → r = (-1, ((a + n : Nat) : Int), false)) →
    Ev (fun k => zelligeref22_Words.l2 k s (a : Int) ws (n : Int) on (j : Int)) r := by
  have hl := drop_len s a
  intro d
  induction d with
  | zero =>
    intro j on hd h1 h2
    have e : ws.drop j = [] := List.drop_of_length_le (by omega)
    rw [e] at h1 h2
    simp only [List.map_nil, List.any_nil, Bool.or_false] at h1 h2
    cases on
    · rw [h2 rfl]
      refine Ev.step (f := fun _ => some _) (fun k => ?_) (Ev.now _)
      show zelligeref22_Words.l2 (k + 1) _ _ _ _ _ _ = _
      simp only [zelligeref22_Words.l2]
      rw [if_neg (by omega), if_neg Bool.false_ne_true, wad a n (by omega)]
    · refine Ev.step (fun k => ?_) (h1 rfl)
      show zelligeref22_Words.l2 (k + 1) _ _ _ _ _ _ = _
      simp only [zelligeref22_Words.l2]
      rw [if_neg (by omega), if_pos trivial, wsz n (by omega)]
  | succ d ih =>
    intro j on hd h1 h2
    have hj : j < ws.length := by omega
    have hwz := hz _ (List.getElem_mem hj)
    have hwl := bytesOf_length ws[j]
    cases on
    · have e := any_drop ((bytesOf s).drop a) ws n j hj
      rw [Bool.false_or, e] at h1 h2
      refine Ev.step (fun k => ?_) (ih (j + 1) (decide (n + 1 ≤ cpl ((bytesOf s).drop a) (bytesOf ws[j]))) (by omega) h1 h2)
      show zelligeref22_Words.l2 (k + 1) _ _ _ _ _ _ = _
      simp only [zelligeref22_Words.l2]
      rw [if_pos (by omega), wad a n (by omega), if_pos (by omega), if_neg Bool.false_ne_true, if_pos (by omega), rdOf_nat ws j hj, wsz n (by omega), wsz j (by omega), wsz (a + n) (by omega)]
      by_cases hc : ((ws[j].size : Nat) : Int) > (n : Int)
      · rw [if_pos hc, if_pos (by omega), if_pos (by omega), if_pos (by omega), if_pos (by omega), if_pos (by omega), Int.toNat_natCast, Int.toNat_natCast, Int.toNat_natCast]
        congr 1
        have g := cpl_ge ((bytesOf s).drop a) (bytesOf ws[j]) (n + 1) (by omega) (by omega)
        by_cases hx : n + 1 ≤ cpl ((bytesOf s).drop a) (bytesOf ws[j])
        · rw [decide_eq_true hx, beq_iff_eq, tl_eq, bytes_to, bytes_ext, show a + n + 1 - a = n + 1 from by omega]
          exact (g.1 hx).symm
        · rw [decide_eq_false hx, beq_eq_false_iff_ne]
          intro e2
          rw [tl_eq, bytes_to, bytes_ext, show a + n + 1 - a = n + 1 from by omega] at e2
          exact hx (g.2 e2.symm)
      · rw [if_neg hc]
        congr 1
        have := cpl_le2 ((bytesOf s).drop a) (bytesOf ws[j])
        rw [decide_eq_false (by omega)]
    · refine Ev.step (fun k => ?_) (ih (j + 1) true (by omega) (fun _ => h1 (by simp)) (fun g => by simp at g))
      show zelligeref22_Words.l2 (k + 1) _ _ _ _ _ _ = _
      simp only [zelligeref22_Words.l2]
      rw [if_pos (by omega), wad a n (by omega), if_pos (by omega), if_pos trivial, wsz j (by omega)]
theorem RWords_l1 (s : ByteArray) (hs : s.size < 1099511627776) (a : Nat) (ha : a ≤ s.size) (ws : List ByteArray) (hw : ws.length < 1000) (hz : ∀ w ∈ ws, w.size < 1000) : ∀ (d n : Nat), mxS ((bytesOf s).drop a) (ws.map bytesOf) 0 - n = d → n ≤ mxS ((bytesOf s).drop a) (ws.map bytesOf) 0 →
    Ev (fun k => zelligeref22_Words.l1 k s (a : Int) ws (n : Int)) (-1, ((a + mxS ((bytesOf s).drop a) (ws.map bytesOf) 0 : Nat) : Int), false) := by
  have hl := drop_len s a
  have hm := mxS_le ((bytesOf s).drop a) (ws.map bytesOf) 0 (Nat.zero_le _)
  have ent : ∀ (n : Nat), n ≤ s.size - a → ∀ k, zelligeref22_Words.l1 (k + 1) s (a : Int) ws (n : Int) = zelligeref22_Words.l2 k s (a : Int) ws (n : Int) false 0 := by
    intro n hn k
    simp only [zelligeref22_Words.l1]
    rw [if_pos (by unfold wrap64; omega)]
  have fin : Ev (fun k => zelligeref22_Words.l1 k s (a : Int) ws ((mxS ((bytesOf s).drop a) (ws.map bytesOf) 0 : Nat) : Int)) (-1, ((a + mxS ((bytesOf s).drop a) (ws.map bytesOf) 0 : Nat) : Int), false) := by
    have ha2 := mxS_any ((bytesOf s).drop a) (ws.map bytesOf) 0 (mxS ((bytesOf s).drop a) (ws.map bytesOf) 0)
    generalize mxS ((bytesOf s).drop a) (ws.map bytesOf) 0 = M at *
    refine Ev.step (fun k => ent M (by omega) k) ?_
    by_cases hc : a + M < s.size
    · refine RWords_l2 s hs a ha ws hw hz M hc _ ws.length 0 false rfl (fun g => ?_) (fun _ => rfl)
      rw [List.drop_zero, Bool.false_or] at g
      exact absurd (ha2.2 (.inr g)) (by omega)
    · refine Ev.step (f := fun _ => some _) (fun k => ?_) (Ev.now _)
      show zelligeref22_Words.l2 (k + 1) _ _ _ _ _ _ = _
      simp only [zelligeref22_Words.l2]
      rw [wad a M (by omega)]
      by_cases h0 : (0 : Int) < (ws.length : Int)
      · rw [if_pos h0, if_neg (by omega), if_neg Bool.false_ne_true]
      · rw [if_neg h0, if_neg Bool.false_ne_true]
  intro d
  induction d with
  | zero =>
    intro n hd hn
    obtain rfl : n = mxS ((bytesOf s).drop a) (ws.map bytesOf) 0 := by omega
    exact fin
  | succ d ih =>
    intro n hd hn
    have ha2 := mxS_any ((bytesOf s).drop a) (ws.map bytesOf) 0 n
    refine Ev.step (fun k => ent n (by omega) k) ?_
    refine RWords_l2 s hs a ha ws hw hz n (by omega) _ ws.length 0 false rfl (fun g => ih (n + 1) (by omega) (by omega)) (fun g => ?_)
    rw [List.drop_zero, Bool.false_or] at g
    rcases ha2.1 (by omega) with h | h
    · omega
    · rw [h] at g; cases g
theorem RWords_l0 (s : ByteArray) (hs : s.size < 1099511627776) (a : Nat) (ha : a ≤ s.size) (ws : List ByteArray) (hw : ws.length < 1000) (hz : ∀ w ∈ ws, w.size < 1000) : ∀ (d j : Nat), ws.length - j = d → j ≤ ws.length →
    Ev (fun k => zelligeref22_Words.l0 k s (a : Int) ws (j : Int)) (W3 a (wordsS ((bytesOf s).drop a) ((ws.drop j).map bytesOf) (j : Int) (mxS ((bytesOf s).drop a) ((ws.take j).map bytesOf) 0))) := by
  have hl := drop_len s a
  intro d
  induction d with
  | zero =>
    intro j hd hj
    obtain rfl : j = ws.length := by omega
    rw [List.drop_length, List.take_length]
    refine Ev.step (fun k => ?_) (RWords_l1 s hs a ha ws hw hz _ 0 rfl (Nat.zero_le _))
    show zelligeref22_Words.l0 (k + 1) _ _ _ _ = _
    simp only [zelligeref22_Words.l0]
    rw [if_neg (by omega)]
    rfl
  | succ d ih =>
    intro j hd hj
    have hj : j < ws.length := by omega
    have hwz := hz _ (List.getElem_mem hj)
    have hwl := bytesOf_length ws[j]
    have hc := cpl_le1 ((bytesOf s).drop a) (bytesOf ws[j])
    have hc2 := cpl_le2 ((bytesOf s).drop a) (bytesOf ws[j])
    have e1 : (ws.drop j).map bytesOf = bytesOf ws[j] :: (ws.drop (j + 1)).map bytesOf := by rw [List.drop_eq_getElem_cons hj]; rfl
    have e2 : mxS ((bytesOf s).drop a) ((ws.take (j + 1)).map bytesOf) 0 = max (mxS ((bytesOf s).drop a) ((ws.take j).map bytesOf) 0) (cpl ((bytesOf s).drop a) (bytesOf ws[j])) := by
      rw [List.take_succ_eq_append_getElem hj, List.map_append]
      exact mxS_snoc _ _ _ _
    have nx := ih (j + 1) (by omega) (by omega)
    rw [e2] at nx
    rw [e1]
    simp only [wordsS]
    have g := cpl_ge ((bytesOf s).drop a) (bytesOf ws[j])
    have st : ∀ k, zelligeref22_Words.l0 (k + 1) s (a : Int) ws (j : Int) = if cpl ((bytesOf s).drop a) (bytesOf ws[j]) = (bytesOf ws[j]).length then some ((j : Int), ((a + (bytesOf ws[j]).length : Nat) : Int), true) else zelligeref22_Words.l0 k s (a : Int) ws ((j + 1 : Nat) : Int) := by
      intro k
      simp only [zelligeref22_Words.l0]
      rw [if_pos (by omega), if_pos (by omega), rdOf_nat ws j hj, wad a _ (by omega), wsz j (by omega)]
      by_cases hx : ((a + ws[j].size : Nat) : Int) ≤ (s.size : Int)
      · rw [if_pos hx, if_pos (by omega), if_pos (by omega), Int.toNat_natCast, Int.toNat_natCast, hwl]
        have g2 := g (ws[j].size) (by omega) (by omega)
        rw [show (bytesOf ws[j]).take ws[j].size = bytesOf ws[j] from List.take_of_length_le (by omega)] at g2
        by_cases hy : cpl ((bytesOf s).drop a) (bytesOf ws[j]) = ws[j].size
        · rw [if_pos hy, if_pos]
          rw [tl_eq, bytes_ext, Nat.add_sub_cancel_left]
          exact g2.1 (by omega)
        · rw [if_neg hy, if_neg]
          intro e3
          rw [tl_eq, bytes_ext, Nat.add_sub_cancel_left] at e3
          have := g2.2 e3
          omega
      · rw [if_neg hx, if_neg (by omega)]
    by_cases hp : cpl ((bytesOf s).drop a) (bytesOf ws[j]) = (bytesOf ws[j]).length
    · rw [if_pos hp]
      exact Ev.step (f := fun _ => some _) (fun k => by show zelligeref22_Words.l0 (k + 1) _ _ _ _ = _; rw [st k, if_pos hp]; rfl) (Ev.now _)
    · rw [if_neg hp]
      exact Ev.step (fun k => by show zelligeref22_Words.l0 (k + 1) _ _ _ _ = _; rw [st k, if_neg hp]) nx
theorem RWords_f (s : ByteArray) (hs : s.size < 1099511627776) (a : Nat) (ha : a ≤ s.size) (ws : List ByteArray) (hw : ws.length < 1000) (hz : ∀ w ∈ ws, w.size < 1000) : Ev (fun k => zelligeref22_Words.f k s (a : Int) ws) (W3 a (wordsS ((bytesOf s).drop a) (ws.map bytesOf) 0 0)) := by
  refine Ev.congr (fun k => ?_) (RWords_l0 s hs a ha ws hw hz ws.length 0 rfl (Nat.zero_le _))
  unfold zelligeref22_Words.f
  rw [At_f s a ha]
  rfl
theorem tenth (n c : Int) (hn : 0 ≤ n ∧ n ≤ 4611686018427387904) (hc : 48 ≤ c ∧ c ≤ 57) : stepN n c = if n > 461168601842738790 then 4611686018427387904 else if n = 461168601842738790 then (if c - 48 > 4 then 4611686018427387904 else 10 * n + (c - 48)) else 10 * n + (c - 48) := by
  unfold stepN
  split
  · split
    · rfl
    · split
      · split <;> omega
      · omega
  · split
    · omega
    · split
      · split <;> omega
      · rfl
theorem RNumber_j4 (s : ByteArray) (hs : s.size < 1099511627776) (neg : Bool) (p i : Nat) (hi : i < s.size) (n : Int) (hn : 0 ≤ n ∧ n ≤ 4611686018427387904) (hc : 48 ≤ bt s (i : Int) ∧ bt s (i : Int) ≤ 57) (k : Nat) : zelligeref22_Number.j4 (k + 1) s (i : Int) neg n (p : Int) true = zelligeref22_Number.l0 k s ((i + 1 : Nat) : Int) neg (stepN n (bt s (i : Int))) (p : Int) := by
  simp only [zelligeref22_Number.j4]
  have em : (bt s (i : Int) - 48) % 256 = bt s (i : Int) - 48 := by omega
  rw [if_pos trivial, if_pos (by omega), if_pos (by omega), em, wsz i (by omega), tenth n _ hn hc]
  split
  · rfl
  · rw [show wrap64 (10 * n) = 10 * n from by unfold wrap64; omega, show wrap64 (10 * n + (bt s (i : Int) - 48)) = 10 * n + (bt s (i : Int) - 48) from by unfold wrap64; omega]
    split
    · split <;> rfl
    · rfl
theorem RNumber_l0 (s : ByteArray) (hs : s.size < 1099511627776) (neg : Bool) (p : Nat) : ∀ (d i : Nat) (n : Int), s.size - i = d → i ≤ s.size → p < i → 0 ≤ n ∧ n ≤ 4611686018427387904 →
    Ev (fun k => zelligeref22_Number.l0 k s (i : Int) neg n (p : Int)) (if neg = true then -(runS ((bytesOf s).drop i) n).1 else (runS ((bytesOf s).drop i) n).1, ((i + (runS ((bytesOf s).drop i) n).2 : Nat) : Int), true) := by
  have fin : ∀ (i : Nat) (n : Int), p < i → 0 ≤ n ∧ n ≤ 4611686018427387904 → Ev (fun k => zelligeref22_Number.j4 k s (i : Int) neg n (p : Int) false) (if neg = true then -n else n, ((i : Nat) : Int), true) := by
    intro i n h hn
    refine Ev.step (f := fun _ => some _) (fun k => ?_) (Ev.now _)
    show zelligeref22_Number.j4 (k + 1) _ _ _ _ _ _ = _
    simp only [zelligeref22_Number.j4]
    rw [if_neg Bool.false_ne_true, if_neg (by omega)]
    cases neg
    · rw [if_neg Bool.false_ne_true, if_neg Bool.false_ne_true]
    · rw [if_pos rfl, if_pos rfl, show wrap64 (-n) = -n from by unfold wrap64; omega]
  intro d
  induction d with
  | zero =>
    intro i n hd hi hp hn
    have e : (bytesOf s).drop i = [] := List.drop_of_length_le (by rw [bytesOf_length]; omega)
    rw [e]
    refine Ev.step (fun k => ?_) (fin i n hp hn)
    show zelligeref22_Number.l0 (k + 1) _ _ _ _ _ = _
    simp only [zelligeref22_Number.l0]
    rw [if_neg (by omega)]
  | succ d ih =>
    intro i n hd hi hp hn
    rw [drop_bt s i (by omega)]
    have hb := bt_range s (i : Int)
    have h0 : ∀ k, zelligeref22_Number.l0 (k + 1) s (i : Int) neg n (p : Int) = zelligeref22_Number.j4 k s (i : Int) neg n (p : Int) (digB (bt s (i : Int))) := by
      intro k
      simp only [zelligeref22_Number.l0]
      rw [if_pos (by omega), if_pos (by omega)]
      unfold digB
      by_cases h1 : bt s (i : Int) ≥ 48
      · by_cases h2 : bt s (i : Int) ≤ 57
        · rw [if_pos h1, if_pos h2, if_pos (by omega), decide_eq_true (show 48 ≤ bt s (i : Int) from h1), decide_eq_true h2, Bool.true_and]
        · rw [if_pos h1, if_neg h2, decide_eq_false h2, Bool.and_false]
      · rw [if_neg h1, decide_eq_false (show ¬ 48 ≤ bt s (i : Int) from h1), Bool.false_and]
    simp only [runS]
    by_cases hg : digB (bt s (i : Int)) = true
    · rw [if_pos hg]
      have hc : 48 ≤ bt s (i : Int) ∧ bt s (i : Int) ≤ 57 := by simpa [digB] using hg
      have hr : 0 ≤ stepN n (bt s (i : Int)) ∧ stepN n (bt s (i : Int)) ≤ 4611686018427387904 := by
        unfold stepN
        split <;> omega
      refine Ev.step (f := fun k => zelligeref22_Number.j4 k s (i : Int) neg n (p : Int) true) (fun k => by show zelligeref22_Number.l0 (k + 1) _ _ _ _ _ = _; rw [h0 k, hg]) ?_
      refine Ev.step (fun k => RNumber_j4 s hs neg p i (by omega) n hn hc k) ?_
      have := ih (i + 1) _ (by omega) (by omega) (by omega) hr
      rw [show i + ((runS ((bytesOf s).drop (i + 1)) (stepN n (bt s (i : Int)))).2 + 1) = i + 1 + (runS ((bytesOf s).drop (i + 1)) (stepN n (bt s (i : Int)))).2 from by omega]
      exact this
    · rw [if_neg hg]
      have hg' : digB (bt s (i : Int)) = false := by simpa using hg
      exact Ev.step (fun k => by show zelligeref22_Number.l0 (k + 1) _ _ _ _ _ = _; rw [h0 k, hg']) (fin i n hp hn)
theorem RNumber_j1 (s : ByteArray) (hs : s.size < 1099511627776) (neg : Bool) (i : Nat) (hi : i ≤ s.size) : Ev (fun k => zelligeref22_Number.j1 k s (i : Int) neg) (W3 i (numU neg ((bytesOf s).drop i))) := by
  have fin : Ev (fun k => zelligeref22_Number.j4 k s (i : Int) neg 0 (i : Int) false) (0, (i : Int), false) := by
    refine Ev.step (f := fun _ => some _) (fun k => ?_) (Ev.now _)
    show zelligeref22_Number.j4 (k + 1) _ _ _ _ _ _ = _
    simp only [zelligeref22_Number.j4]
    rw [if_neg Bool.false_ne_true, if_pos trivial]
  have j2f : ∀ {r}, Ev (fun k => zelligeref22_Number.l0 k s (i : Int) neg 0 (i : Int)) r → Ev (fun k => zelligeref22_Number.j2 k s (i : Int) neg false) r := by
    intro r h
    refine Ev.step (fun k => ?_) h
    show zelligeref22_Number.j2 (k + 1) _ _ _ _ = _
    simp only [zelligeref22_Number.j2]
    rw [if_neg Bool.false_ne_true]
  by_cases h : i = s.size
  · have e : (bytesOf s).drop i = [] := List.drop_of_length_le (by rw [bytesOf_length]; omega)
    rw [e]
    refine Ev.step (fun k => ?_) (j2f (Ev.step (fun k => ?_) fin))
    · show zelligeref22_Number.j1 (k + 1) _ _ _ = _
      simp only [zelligeref22_Number.j1]
      rw [if_neg (by omega)]
    · show zelligeref22_Number.l0 (k + 1) _ _ _ _ _ = _
      simp only [zelligeref22_Number.l0]
      rw [if_neg (by omega)]
  · have hb := bt_range s (i : Int)
    have e := drop_bt s i (by omega)
    have h0 : ∀ k, zelligeref22_Number.l0 (k + 1) s (i : Int) neg 0 (i : Int) = zelligeref22_Number.j4 k s (i : Int) neg 0 (i : Int) (digB (bt s (i : Int)) && (bt s (i : Int) != 48)) := by
      intro k
      simp only [zelligeref22_Number.l0]
      rw [if_pos (by omega), if_pos (by omega)]
      unfold digB
      by_cases h1 : bt s (i : Int) ≥ 48
      · by_cases h2 : bt s (i : Int) ≤ 57
        · rw [if_pos h1, if_pos h2, if_neg (by omega), decide_eq_true (show 48 ≤ bt s (i : Int) from h1), decide_eq_true h2, Bool.true_and, Bool.true_and]
        · rw [if_pos h1, if_neg h2, decide_eq_false h2, Bool.and_false, Bool.false_and]
      · rw [if_neg h1, decide_eq_false (show ¬ 48 ≤ bt s (i : Int) from h1), Bool.false_and, Bool.false_and]
    rw [e]
    simp only [numU]
    have h1 : ∀ k, zelligeref22_Number.j1 (k + 1) s (i : Int) neg = zelligeref22_Number.j2 k s (i : Int) neg (decide (bt s (i : Int) = 48) && !neg) := by
      intro k
      simp only [zelligeref22_Number.j1]
      rw [if_pos (by omega), if_pos (by omega)]
      by_cases h48 : bt s (i : Int) = 48
      · rw [if_pos h48, decide_eq_true h48, Bool.true_and]
      · rw [if_neg h48, decide_eq_false h48, Bool.false_and]
    by_cases h48 : bt s (i : Int) = 48
    · have hd : digB (bt s (i : Int)) = true := by rw [h48]; rfl
      cases neg
      · rw [if_neg (by simp [hd]), if_pos h48]
        refine Ev.step (fun k => h1 k) ?_
        rw [decide_eq_true h48]
        refine Ev.step (f := fun _ => some _) (fun k => ?_) (Ev.now _)
        show zelligeref22_Number.j2 (k + 1) _ _ _ true = _
        simp only [zelligeref22_Number.j2]
        rw [if_pos trivial, wsz i (by omega)]
        rfl
      · rw [if_pos (.inr ⟨rfl, h48⟩)]
        refine Ev.step (fun k => h1 k) ?_
        rw [Bool.not_true, Bool.and_false]
        refine j2f (Ev.step (fun k => ?_) fin)
        show zelligeref22_Number.l0 (k + 1) _ _ _ _ _ = _
        rw [h0 k, h48]
        rfl
    · refine Ev.step (fun k => h1 k) ?_
      rw [decide_eq_false h48, Bool.false_and]
      refine j2f ?_
      refine Ev.step (fun k => h0 k) ?_
      have hn48 : (bt s (i : Int) != 48) = true := by simpa using h48
      rw [hn48, Bool.and_true]
      by_cases hd : digB (bt s (i : Int)) = true
      · have hc : 48 ≤ bt s (i : Int) ∧ bt s (i : Int) ≤ 57 := by simpa [digB] using hd
        rw [if_neg (by simp [hd, h48]), if_neg h48, hd]
        have hr : 0 ≤ stepN 0 (bt s (i : Int)) ∧ stepN 0 (bt s (i : Int)) ≤ 4611686018427387904 := by
          unfold stepN
          split <;> omega
        refine Ev.step (fun k => RNumber_j4 s hs neg i i (by omega) 0 (by omega) hc k) ?_
        have := RNumber_l0 s hs neg i _ (i + 1) _ rfl (by omega) (by omega) hr
        have e2 : runS (bt s (i : Int) :: (bytesOf s).drop (i + 1)) 0 = ((runS ((bytesOf s).drop (i + 1)) (stepN 0 (bt s (i : Int)))).1, (runS ((bytesOf s).drop (i + 1)) (stepN 0 (bt s (i : Int)))).2 + 1) := by
          simp only [runS]
          rw [if_pos hd]
        rw [e2]
        simp only [W3]
        rw [show i + ((runS ((bytesOf s).drop (i + 1)) (stepN 0 (bt s (i : Int)))).2 + 1) = i + 1 + (runS ((bytesOf s).drop (i + 1)) (stepN 0 (bt s (i : Int)))).2 from by omega]
        exact this
      · have hd' : digB (bt s (i : Int)) = false := by simpa using hd
        rw [if_pos (.inl hd'), hd']
        exact fin
theorem RNumber_f (s : ByteArray) (hs : s.size < 1099511627776) (b : Bool) (a : Nat) (ha : a ≤ s.size) : Ev (fun k => zelligeref22_Number.f k s (a : Int) b) (W3 a (numS b ((bytesOf s).drop a))) := by
  have plain : (∀ c cs, (bytesOf s).drop a = c :: cs → ¬ (b = true ∧ c = 45)) → Ev (fun k => zelligeref22_Number.j0 k s (a : Int) false false) (W3 a (numS b ((bytesOf s).drop a))) := by
    intro h
    have e : numS b ((bytesOf s).drop a) = numU false ((bytesOf s).drop a) := by
      cases hx : (bytesOf s).drop a with
      | nil => rfl
      | cons c cs =>
        simp only [numS]
        rw [if_neg (h c cs hx)]
    rw [e]
    refine Ev.step (fun k => ?_) (RNumber_j1 s hs false a ha)
    show zelligeref22_Number.j0 (k + 1) _ _ _ _ = _
    simp only [zelligeref22_Number.j0]
    rw [if_neg Bool.false_ne_true]
  cases b
  · refine Ev.congr (fun k => ?_) (plain (fun c cs _ g => Bool.false_ne_true g.1))
    unfold zelligeref22_Number.f
    rw [At_f s a ha, Option.bind_some, if_neg Bool.false_ne_true]
  · by_cases h : a < s.size
    · have e := drop_bt s a h
      by_cases hm : bt s (a : Int) = 45
      · refine Ev.congr (f := fun k => zelligeref22_Number.j0 k s (a : Int) false true) (fun k => ?_) (Ev.step (fun k => ?_) (show Ev (fun k => zelligeref22_Number.j1 k s ((a + 1 : Nat) : Int) true) _ from ?_))
        · unfold zelligeref22_Number.f
          rw [At_f s a ha, Option.bind_some, if_pos rfl, if_pos (by omega), if_pos (by omega), hm]
          rfl
        · show zelligeref22_Number.j0 (k + 1) _ _ _ _ = _
          simp only [zelligeref22_Number.j0]
          rw [if_pos trivial, wsz a (by omega)]
        · have := RNumber_j1 s hs true (a + 1) h
          rw [e]
          simp only [numS]
          rw [if_pos ⟨trivial, hm⟩]
          simp only [W3] at this ⊢
          rw [← Nat.add_assoc]
          exact this
      · refine Ev.congr (fun k => ?_) (plain (fun c cs e2 g => ?_))
        · unfold zelligeref22_Number.f
          rw [At_f s a ha, Option.bind_some, if_pos rfl, if_pos (by omega), if_pos (by omega), show (bt s (a : Int) == 45) = false from by simpa using hm]
        · rw [e] at e2
          injection e2 with e3
          exact hm (e3.trans g.2)
    · refine Ev.congr (fun k => ?_) (plain (fun c cs e2 g => ?_))
      · unfold zelligeref22_Number.f
        rw [At_f s a ha, Option.bind_some, if_pos rfl, if_neg (by omega)]
      · rw [List.drop_of_length_le (by rw [bytesOf_length]; omega)] at e2
        cases e2
theorem numU_bad (b : Bool) (t : List Int) (h : (numU b t).2.2 = false) : (numU b t).1 = 0 := by
  cases t with
  | nil => rfl
  | cons c cs =>
    simp only [numU] at h ⊢
    split
    · rfl
    · rename_i g
      rw [if_neg g] at h
      split
      · rfl
      · rename_i g2
        rw [if_neg g2] at h
        cases h
theorem numS_bad (b : Bool) (t : List Int) (h : (numS b t).2.2 = false) : (numS b t).1 = 0 := by
  cases t with
  | nil => rfl
  | cons c cs =>
    simp only [numS] at h ⊢
    split
    · rename_i g
      rw [if_pos g] at h
      exact numU_bad _ _ h
    · rename_i g
      rw [if_neg g] at h
      exact numU_bad _ _ h
/-- A place, told as it is. -/
def W2 (r : Int × Nat × Bool) : Int × Int × Bool := (r.1, ((r.2.1 : Nat) : Int), r.2.2)
theorem Take_f (s : ByteArray) (hs : s.size < 1099511627776) (b : Bool) (a : Nat) (ha : a ≤ s.size) (w : ByteArray) (hw : w.size < 1000) : Ev (fun k => zelligeref23_Take.f k s (a : Int) b w) (W2 (rnS (bytesOf s) b (bytesOf w) a true)) := by
  have h1 := numS_le b ((bytesOf s).drop a)
  have h2 := drop_len s a
  have h3 := numS_bad b ((bytesOf s).drop a)
  have hf := RNumber_f s hs b a ha
  unfold zelligeref23_Take.f rnS
  rw [if_pos rfl]
  generalize numS b ((bytesOf s).drop a) = x at *
  obtain ⟨x1, x2, x3⟩ := x
  simp only at h1 h3
  refine Ev.bind hf ?_
  simp only [W3]
  cases x3
  · refine Ev.congr (f := fun _ => some _) (fun k => if_neg Bool.false_ne_true) ?_
    rw [h3 rfl]
    exact Ev.now _
  · refine Ev.congr (fun k => if_pos rfl) (Ev.bind (RWords_f s hs (a + x2) (by omega) [w] (by simp) (by intro y hy; rw [List.mem_singleton.1 hy]; exact hw)) ?_)
    exact Ev.now _
theorem Same_f (l : List S41) (h : l.length < 1099511627776) : Ev (fun k => zelligeref23_Same.f k l l) true := by
  have go : ∀ (d i : Nat), l.length - i = d → i ≤ l.length → Ev (fun k => zelligeref23_Same.l0 k l l (i : Int)) true := by
    intro d
    induction d with
    | zero =>
      intro i hd hi
      refine Ev.step (f := fun _ => some true) (fun k => ?_) (Ev.now _)
      show zelligeref23_Same.l0 (k + 1) _ _ _ = _
      simp only [zelligeref23_Same.l0]
      rw [if_neg (by omega)]
    | succ d ih =>
      intro i hd hi
      refine Ev.step (fun k => ?_) (ih (i + 1) (by omega) (by omega))
      show zelligeref23_Same.l0 (k + 1) _ _ _ = _
      simp only [zelligeref23_Same.l0]
      rw [if_pos (by omega), if_pos (by omega), if_pos (by omega), wsz i (by omega)]
      simp
  unfold zelligeref23_Same.f
  exact Ev.congr (fun k => if_pos rfl) (go _ 0 rfl (Nat.zero_le _))
end Go.Proofs.Ytgpepiefojjkaaa.Pt
