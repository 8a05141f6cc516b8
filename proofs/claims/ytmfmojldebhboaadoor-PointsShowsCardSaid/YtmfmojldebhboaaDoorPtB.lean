/- What the printed readers of texts come to, told of bytes: the program's. -/
import Derived.Test.YtmfmojldebhboaaDoorPtA
import Derived.Test.YtmfmojldebhboaaDoorZSx7
namespace Go.Proofs.YtmfmojldebhboaaDoor.Pt
open Go.RowKit Go.Proofs.YtmfmojldebhboaaDoorW.PrintWords Go.Proofs.YtmfmojldebhboaaDoorW.PrintLast Go.Proofs.YtmfmojldebhboaaDoorW.PrintMore Go.Proofs.YtmfmojldebhboaaDoor.ZS
set_option linter.unusedVariables false
set_option linter.unusedSimpArgs false

theorem tl_loop (s : ByteArray) : ∀ (d i : Nat) (r : List UInt8), s.size - i = d → ByteArray.toList.loop s i r = r.reverse ++ s.data.toList.drop i := by
  intro d
  induction d with
  | zero =>
    intro i r h
    rw [ByteArray.toList.loop, if_neg (by omega), List.drop_of_length_le (by rw [data_length]; omega), List.append_nil]
  | succ d ih =>
    intro i r h
    have hi : i < s.data.toList.length := by rw [data_length]; omega
    rw [ByteArray.toList.loop, if_pos (by omega), ih _ _ (by omega), List.drop_eq_getElem_cons hi, List.reverse_cons, List.append_assoc, List.singleton_append]
    congr 2
    have h2 : i < s.data.size := by rw [← Array.length_toList]; exact hi
    show s.get! i = _
    cases s with
    | mk a => simp only [ByteArray.get!]; simp at h2; simp [h2]
theorem tl_data (s : ByteArray) : s.toList = s.data.toList := by
  unfold ByteArray.toList
  rw [tl_loop s _ 0 [] rfl]
  simp
theorem tl_eq (s t : ByteArray) : s.toList = t.toList ↔ bytesOf s = bytesOf t := by
  rw [tl_data, tl_data]
  unfold bytesOf
  constructor
  · intro h; rw [h]
  · intro h
    refine (List.map_inj_right ?_).1 h
    intro a b hab
    exact UInt8.toNat_inj.1 (Int.ofNat_inj.1 hab)
theorem bytes_ext (s : ByteArray) (i j : Nat) : bytesOf (s.extract i j) = ((bytesOf s).drop i).take (j - i) := by
  unfold bytesOf
  rw [ByteArray.data_extract, Array.toList_extract, List.map_take, List.map_drop]
theorem bytes_from (s : ByteArray) (i : Nat) : bytesOf (s.extract i s.size) = (bytesOf s).drop i := by
  rw [bytes_ext, List.take_of_length_le (by rw [List.length_drop, bytesOf_length]; omega)]
theorem bytes_to (s : ByteArray) (i : Nat) : bytesOf (s.extract 0 i) = (bytesOf s).take i := by
  rw [bytes_ext, List.drop_zero, Nat.sub_zero]
theorem bt_get (s : ByteArray) (i : Nat) : bt s (i : Int) = (bytesOf s).getD i 0 := by
  rw [← rd_bytesOf]
  simp [rd]
theorem drop_bt (s : ByteArray) (i : Nat) (h : i < s.size) : (bytesOf s).drop i = bt s (i : Int) :: (bytesOf s).drop (i + 1) := by
  have hl : i < (bytesOf s).length := by rw [bytesOf_length]; exact h
  rw [List.drop_eq_getElem_cons hl, bt_get, List.getD_eq_getElem?_getD, List.getElem?_eq_getElem hl]
  rfl
theorem drop_len (s : ByteArray) (i : Nat) : ((bytesOf s).drop i).length = s.size - i := by rw [List.length_drop, bytesOf_length]
theorem wsz (n : Nat) (h : n < 9223372036854775807) : wrap64 ((n : Int) + 1) = ((n + 1 : Nat) : Int) := by unfold wrap64; omega
theorem wad (a b : Nat) (h : a + b < 9223372036854775807) : wrap64 ((a : Int) + (b : Int)) = ((a + b : Nat) : Int) := by unfold wrap64; omega

theorem within_f (s : ByteArray) (a : Nat) (h : a ≤ s.size) : lex_within.f s (a : Int) = some (a : Int) := by
  unfold lex_within.f mx mn
  congr 1
  split <;> split <;> omega
theorem pref_f (x w : ByteArray) : strings_HasPrefix.f x w = some (decide (cpl (bytesOf x) (bytesOf w) = (bytesOf w).length)) := by
  unfold strings_HasPrefix.f stringslite_HasPrefix.f
  have h1 := cpl_le1 (bytesOf x) (bytesOf w)
  have lx := bytesOf_length x
  have lw := bytesOf_length w
  by_cases h : (x.size : Int) ≥ (w.size : Int)
  · rw [if_pos h, if_pos (by omega), if_pos (by omega), Option.bind_some]
    congr 1
    have e : (((w.size : Int) : Int).toNat) = w.size := by omega
    rw [e]
    have g := cpl_ge (bytesOf x) (bytesOf w) w.size (by omega) (by omega)
    have g2 := cpl_le2 (bytesOf x) (bytesOf w)
    rw [show (bytesOf w).take w.size = bytesOf w from List.take_of_length_le (by omega)] at g
    by_cases hc : cpl (bytesOf x) (bytesOf w) = (bytesOf w).length
    · rw [decide_eq_true hc]
      have := g.1 (by omega)
      rw [beq_iff_eq, tl_eq, bytes_to]
      exact this
    · rw [decide_eq_false hc, beq_eq_false_iff_ne]
      intro e2
      rw [tl_eq, bytes_to] at e2
      have := g.2 e2
      omega
  · rw [if_neg h, Option.bind_some, decide_eq_false (by omega)]
theorem common_l0 (x w : ByteArray) (hx : x.size < 1099511627776) : ∀ (d i : Nat), cpl (bytesOf x) (bytesOf w) - i = d → i ≤ cpl (bytesOf x) (bytesOf w) → Ev (fun k => lex_common.l0 k x w (i : Int)) ((cpl (bytesOf x) (bytesOf w) : Nat) : Int) := by
  have h1 := cpl_le1 (bytesOf x) (bytesOf w)
  have h2 := cpl_le2 (bytesOf x) (bytesOf w)
  have lx := bytesOf_length x
  have lw := bytesOf_length w
  intro d
  induction d with
  | zero =>
    intro i hd hi
    obtain rfl : i = cpl (bytesOf x) (bytesOf w) := by omega
    refine Ev.step (f := fun _ => some _) (fun k => ?_) (Ev.now _)
    simp only [lex_common.l0]
    by_cases g1 : cpl (bytesOf x) (bytesOf w) < (bytesOf x).length
    · rw [if_pos (by omega)]
      by_cases g2 : cpl (bytesOf x) (bytesOf w) < (bytesOf w).length
      · have := cpl_ne _ _ g1 g2
        rw [if_pos (by omega), if_pos (by omega), if_neg (by rw [bt_get, bt_get]; exact this)]
      · rw [if_neg (by omega)]
    · rw [if_neg (by omega)]
  | succ d ih =>
    intro i hd hi
    refine Ev.step (fun k => ?_) (ih (i + 1) (by omega) (by omega))
    have := cpl_eq (bytesOf x) (bytesOf w) i (by omega)
    show lex_common.l0 (k + 1) x w (i : Int) = _
    simp only [lex_common.l0]
    rw [if_pos (by omega), if_pos (by omega), if_pos (by omega), if_pos (by rw [bt_get, bt_get]; exact this), wsz i (by omega)]
theorem common_f (x w : ByteArray) (hx : x.size < 1099511627776) : Ev (fun k => lex_common.f k x w) ((cpl (bytesOf x) (bytesOf w) : Nat) : Int) := common_l0 x w hx _ 0 rfl (Nat.zero_le _)
/-- A place, as Go tells it. -/
def W3 (a : Nat) (r : Int × Nat × Bool) : Int × Int × Bool := (r.1, ((a + r.2.1 : Nat) : Int), r.2.2)
theorem rdOf_nat (ws : List ByteArray) (j : Nat) (h : j < ws.length) : rdOf ByteArray.empty ws (j : Int) = ws[j] := by
  unfold rdOf
  rw [Int.toNat_natCast, List.getD_eq_getElem?_getD, List.getElem?_eq_getElem h]
  rfl
theorem Words_l0 (s : ByteArray) (hs : s.size < 1099511627776) (a : Nat) (ha : a ≤ s.size) (ws : List ByteArray) (hw : ws.length < 1000) : ∀ (d j far : Nat), ws.length - j = d → far ≤ s.size - a →
    Ev (fun k => lex_Words.l0 k s (a : Int) (far : Int) ws (ws.length : Int) (j : Int)) (W3 a (wordsS ((bytesOf s).drop a) ((ws.drop j).map bytesOf) (j : Int) far)) := by
  have hl := drop_len s a
  intro d
  induction d with
  | zero =>
    intro j far hd hf
    refine Ev.step (f := fun _ => some _) (fun k => ?_) (Ev.now _)
    simp only [lex_Words.l0]
    have e : ws.drop j = [] := List.drop_of_length_le (by omega)
    rw [if_neg (by omega), e, wad a far (by omega)]
    rfl
  | succ d ih =>
    intro j far hd hf
    have hj : j < ws.length := by omega
    have e1 : (ws.drop j).map bytesOf = bytesOf ws[j] :: (ws.drop (j + 1)).map bytesOf := by rw [List.drop_eq_getElem_cons hj]; rfl
    have hc := cpl_le1 ((bytesOf s).drop a) (bytesOf ws[j])
    have hc2 := bytesOf_length ws[j]
    have base : ∀ k, lex_Words.l0 (k + 1) s (a : Int) (far : Int) ws (ws.length : Int) (j : Int) = if decide (cpl ((bytesOf s).drop a) (bytesOf ws[j]) = (bytesOf ws[j]).length) = true then some ((j : Int), wrap64 ((a : Int) + (ws[j].size : Int)), true) else (lex_common.f k (s.extract a s.size) ws[j]).bind fun t => lex_Words.l0 k s (a : Int) (mx (far : Int) t) ws (ws.length : Int) (wrap64 ((j : Int) + 1)) := by
      intro k
      simp only [lex_Words.l0]
      rw [if_pos (by omega), if_pos (by omega), if_pos (by omega), if_pos (by omega), if_pos (by omega), Int.toNat_natCast, rdOf_nat ws j hj, pref_f, bytes_from, Option.bind_some]
    rw [e1]
    simp only [wordsS]
    by_cases hp : cpl ((bytesOf s).drop a) (bytesOf ws[j]) = (bytesOf ws[j]).length
    · rw [if_pos hp]
      refine Ev.step (f := fun _ => some _) (fun k => ?_) (Ev.now _)
      rw [base k, if_pos (decide_eq_true hp), wad a _ (by omega), ← hc2]
      rfl
    · rw [if_neg hp]
      refine Ev.step (fun k => ?_) (Ev.bind (f := fun k t => lex_Words.l0 k s (a : Int) (mx (far : Int) t) ws (ws.length : Int) (wrap64 ((j : Int) + 1))) (common_f (s.extract a s.size) ws[j] ?_) ?_)
      · show lex_Words.l0 (k + 1) s _ _ ws _ _ = _
        rw [base k, if_neg (by rw [decide_eq_false hp]; exact Bool.false_ne_true)]
      · have := bytesOf_length (s.extract a s.size)
        rw [bytes_from, hl] at this
        omega
      · rw [bytes_from]
        have em : mx (far : Int) ((cpl ((bytesOf s).drop a) (bytesOf ws[j]) : Nat) : Int) = ((max far (cpl ((bytesOf s).drop a) (bytesOf ws[j])) : Nat) : Int) := by unfold mx; split <;> omega
        rw [em, wsz j (by omega)]
        exact ih (j + 1) _ (by omega) (by omega)
theorem Words_f (s : ByteArray) (hs : s.size < 1099511627776) (a : Nat) (ha : a ≤ s.size) (ws : List ByteArray) (hw : ws.length < 1000) : Ev (fun k => lex_Words.f k s (a : Int) ws) (W3 a (wordsS ((bytesOf s).drop a) (ws.map bytesOf) 0 0)) := by
  refine Ev.congr (fun k => ?_) (Words_l0 s hs a ha ws hw ws.length 0 0 rfl (Nat.zero_le _))
  unfold lex_Words.f
  rw [within_f s a ha]
  rfl
/-- What a method of the reader's answers. -/
def W4 (s : ByteArray) (r : Int × Nat × Bool) : Int × ByteArray × Int × Bool := (r.1, s, ((r.2.1 : Nat) : Int), r.2.2)
theorem word_f (s : ByteArray) (hs : s.size < 1099511627776) (a : Nat) (ha : a ≤ s.size) (ok : Bool) (ws : List ByteArray) (hw : ws.length < 1000) : Ev (fun k => points_reader_word.f k s (a : Int) ok ws) (W4 s (rwS (bytesOf s) (ws.map bytesOf) a ok)) := by
  unfold points_reader_word.f rwS
  cases ok
  · exact Ev.congr (fun k => if_neg Bool.false_ne_true) (Ev.now _)
  · refine Ev.congr (fun k => if_pos rfl) (Ev.bind (Words_f s hs a ha ws hw) ?_)
    rw [if_pos rfl]
    exact Ev.now _
theorem digit_f (c : Int) : lex_digit.f c = some (digB c) := by
  unfold lex_digit.f digB
  by_cases h : c ≥ 48
  · rw [if_pos h, decide_eq_true (show 48 ≤ c from h), Bool.true_and]
  · rw [if_neg h, decide_eq_false (show ¬ 48 ≤ c from h), Bool.false_and]
theorem Number_l0 (s : ByteArray) (hs : s.size < 1099511627776) (neg : Bool) : ∀ (d i : Nat) (n : Int), s.size - i = d → i ≤ s.size → 0 ≤ n ∧ n ≤ 4611686018427387904 →
    Ev (fun k => lex_Number.l0 k s (i : Int) neg n) (if neg = true then -(runS ((bytesOf s).drop i) n).1 else (runS ((bytesOf s).drop i) n).1, ((i + (runS ((bytesOf s).drop i) n).2 : Nat) : Int), true) := by
  intro d
  induction d with
  | zero =>
    intro i n hd hi hn
    have e : (bytesOf s).drop i = [] := List.drop_of_length_le (by rw [bytesOf_length]; omega)
    rw [e]
    simp only [runS]
    refine Ev.step (f := fun k => lex_Number.j4 k s (i : Int) neg n false) (fun k => ?_) (Ev.step (f := fun _ => some _) (fun k => ?_) (Ev.now _))
    · show lex_Number.l0 (k + 1) s _ _ _ = _
      simp only [lex_Number.l0]
      rw [if_neg (by omega)]
    · show lex_Number.j4 (k + 1) s _ _ _ _ = _
      simp only [lex_Number.j4]
      rw [if_neg Bool.false_ne_true]
      cases neg
      · rw [if_neg Bool.false_ne_true, if_neg Bool.false_ne_true]; rfl
      · rw [if_pos rfl, if_pos rfl, show wrap64 (-n) = -n from by unfold wrap64; omega]; rfl
  | succ d ih =>
    intro i n hd hi hn
    rw [drop_bt s i (by omega)]
    have hb := bt_range s (i : Int)
    have h0 : ∀ k, lex_Number.l0 (k + 1) s (i : Int) neg n = lex_Number.j4 k s (i : Int) neg n (digB (bt s (i : Int))) := by
      intro k
      simp only [lex_Number.l0]
      rw [if_pos (by omega), if_pos (by omega), digit_f, Option.bind_some]
    simp only [runS]
    by_cases hg : digB (bt s (i : Int)) = true
    · rw [if_pos hg]
      have hc : 48 ≤ bt s (i : Int) ∧ bt s (i : Int) ≤ 57 := by simpa [digB] using hg
      have em : (bt s (i : Int) - 48) % 256 = bt s (i : Int) - 48 := by omega
      have hr : 0 ≤ stepN n (bt s (i : Int)) ∧ stepN n (bt s (i : Int)) ≤ 4611686018427387904 := by
        unfold stepN
        split <;> omega
      refine Ev.step (f := fun k => lex_Number.j4 k s (i : Int) neg n true) (fun k => by show lex_Number.l0 (k + 1) s _ _ _ = _; rw [h0 k, hg]) ?_
      refine Ev.step (fun k => ?_) (show Ev (fun k => lex_Number.l0 k s ((i + 1 : Nat) : Int) neg (stepN n (bt s (i : Int)))) _ from ?_)
      · show lex_Number.j4 (k + 1) s _ _ _ _ = _
        simp only [lex_Number.j4]
        rw [if_pos trivial, if_pos (by omega), if_pos (by omega), em, wsz i (by omega)]
        unfold stepN
        split
        · rfl
        · rename_i hx
          rw [show wrap64 (10 * n) = 10 * n from by unfold wrap64; omega, show wrap64 (10 * n + (bt s (i : Int) - 48)) = 10 * n + (bt s (i : Int) - 48) from by unfold wrap64; omega]
      · have := ih (i + 1) _ (by omega) (by omega) hr
        rw [show i + ((runS ((bytesOf s).drop (i + 1)) (stepN n (bt s (i : Int)))).2 + 1) = i + 1 + (runS ((bytesOf s).drop (i + 1)) (stepN n (bt s (i : Int)))).2 from by omega]
        exact this
    · rw [if_neg hg]
      have hg' : digB (bt s (i : Int)) = false := by simpa using hg
      refine Ev.step (f := fun k => lex_Number.j4 k s (i : Int) neg n false) (fun k => by show lex_Number.l0 (k + 1) s _ _ _ = _; rw [h0 k, hg']) (Ev.step (f := fun _ => some _) (fun k => ?_) (Ev.now _))
      show lex_Number.j4 (k + 1) s _ _ _ _ = _
      simp only [lex_Number.j4]
      rw [if_neg Bool.false_ne_true]
      cases neg
      · rw [if_neg Bool.false_ne_true, if_neg Bool.false_ne_true]; rfl
      · rw [if_pos rfl, if_pos rfl, show wrap64 (-n) = -n from by unfold wrap64; omega]; rfl
theorem Number_j1 (s : ByteArray) (hs : s.size < 1099511627776) (neg : Bool) (i : Nat) (hi : i ≤ s.size) : Ev (fun k => lex_Number.j1 k s (i : Int) neg) (W3 i (numU neg ((bytesOf s).drop i))) := by
  by_cases h : i = s.size
  · have e : (bytesOf s).drop i = [] := List.drop_of_length_le (by rw [bytesOf_length]; omega)
    rw [e]
    refine Ev.step (f := fun k => lex_Number.j2 k s (i : Int) neg true) (fun k => ?_) (Ev.step (f := fun _ => some _) (fun k => ?_) (Ev.now _))
    · show lex_Number.j1 (k + 1) s _ _ = _
      simp only [lex_Number.j1]
      rw [if_pos (by omega)]
    · show lex_Number.j2 (k + 1) s _ _ _ = _
      simp only [lex_Number.j2]
      rw [if_pos trivial]
      rfl
  · have hb := bt_range s (i : Int)
    have e := drop_bt s i (by omega)
    have h1 : ∀ k, lex_Number.j1 (k + 1) s (i : Int) neg = lex_Number.j2 k s (i : Int) neg (decide (digB (bt s (i : Int)) = false ∨ (neg = true ∧ bt s (i : Int) = 48))) := by
      intro k
      simp only [lex_Number.j1]
      rw [if_neg (by omega), if_pos (by omega), if_pos (by omega), digit_f, Option.bind_some]
      cases hd : digB (bt s (i : Int))
      · simp
      · cases neg
        · simp
        · simp only [if_true]
          congr 1
          by_cases h48 : bt s (i : Int) = 48 <;> simp [h48]
    rw [e]
    simp only [numU]
    by_cases hx : digB (bt s (i : Int)) = false ∨ (neg = true ∧ bt s (i : Int) = 48)
    · rw [if_pos hx]
      refine Ev.step (f := fun k => lex_Number.j2 k s (i : Int) neg true) (fun k => ?_) (Ev.step (f := fun _ => some _) (fun k => ?_) (Ev.now _))
      · show lex_Number.j1 (k + 1) s _ _ = _
        rw [h1 k, decide_eq_true hx]
      · show lex_Number.j2 (k + 1) s _ _ _ = _
        simp only [lex_Number.j2]
        rw [if_pos trivial]
        rfl
    · rw [if_neg hx]
      refine Ev.step (f := fun k => lex_Number.j2 k s (i : Int) neg false) (fun k => ?_) ?_
      · show lex_Number.j1 (k + 1) s _ _ = _
        rw [h1 k, decide_eq_false hx]
      by_cases h48 : bt s (i : Int) = 48
      · rw [if_pos h48]
        refine Ev.step (f := fun _ => some _) (fun k => ?_) (Ev.now _)
        show lex_Number.j2 (k + 1) s _ _ _ = _
        simp only [lex_Number.j2]
        rw [if_neg Bool.false_ne_true, if_pos (by omega), if_pos (by omega), if_pos h48, wsz i (by omega)]
        rfl
      · rw [if_neg h48]
        refine Ev.step (fun k => ?_) (show Ev (fun k => lex_Number.l0 k s (i : Int) neg 0) _ from ?_)
        · show lex_Number.j2 (k + 1) s _ _ _ = _
          simp only [lex_Number.j2]
          rw [if_neg Bool.false_ne_true, if_pos (by omega), if_pos (by omega), if_neg h48]
        · have := Number_l0 s hs neg _ i 0 rfl hi (by omega)
          rw [e] at this
          exact this
theorem Number_f (s : ByteArray) (hs : s.size < 1099511627776) (b : Bool) (a : Nat) (ha : a ≤ s.size) : Ev (fun k => lex_Number.f k s (a : Int) b) (W3 a (numS b ((bytesOf s).drop a))) := by
  have plain : ∀ b' : Bool, (∀ c cs, (bytesOf s).drop a = c :: cs → ¬ (b = true ∧ c = 45)) → Ev (fun k => lex_Number.j0 k s (a : Int) false) (W3 a (numS b ((bytesOf s).drop a))) := by
    intro _ h
    have e : numS b ((bytesOf s).drop a) = numU false ((bytesOf s).drop a) := by
      cases hx : (bytesOf s).drop a with
      | nil => rfl
      | cons c cs =>
        simp only [numS]
        rw [if_neg (h c cs hx)]
    rw [e]
    refine Ev.step (fun k => ?_) (Number_j1 s hs false a ha)
    show lex_Number.j0 (k + 1) s _ _ = _
    simp only [lex_Number.j0]
    rw [if_neg Bool.false_ne_true]
  cases b
  · refine Ev.congr (fun k => ?_) (plain false (fun c cs _ g => Bool.false_ne_true g.1))
    unfold lex_Number.f
    rw [within_f s a ha, Option.bind_some, if_neg Bool.false_ne_true]
  · by_cases h : a < s.size
    · have e := drop_bt s a h
      by_cases hm : bt s (a : Int) = 45
      · refine Ev.congr (f := fun k => lex_Number.j0 k s (a : Int) true) (fun k => ?_) (Ev.step (fun k => ?_) (show Ev (fun k => lex_Number.j1 k s ((a + 1 : Nat) : Int) true) _ from ?_))
        · unfold lex_Number.f
          rw [within_f s a ha, Option.bind_some, if_pos rfl, if_pos (by omega), if_pos (by omega), hm]
          rfl
        · show lex_Number.j0 (k + 1) s _ _ = _
          simp only [lex_Number.j0]
          rw [if_pos trivial, wsz a (by omega)]
        · have := Number_j1 s hs true (a + 1) h
          rw [e]
          simp only [numS]
          rw [if_pos ⟨trivial, hm⟩]
          simp only [W3] at this ⊢
          rw [← Nat.add_assoc]
          exact this
      · refine Ev.congr (fun k => ?_) (plain false (fun c cs e2 g => ?_))
        · unfold lex_Number.f
          rw [within_f s a ha, Option.bind_some, if_pos rfl, if_pos (by omega), if_pos (by omega), show (bt s (a : Int) == 45) = false from by simpa using hm]
        · rw [e] at e2
          injection e2 with e3
          exact hm (e3.trans g.2)
    · refine Ev.congr (fun k => ?_) (plain false (fun c cs e2 g => ?_))
      · unfold lex_Number.f
        rw [within_f s a ha, Option.bind_some, if_pos rfl, if_neg (by omega)]
      · rw [List.drop_of_length_le (by rw [bytesOf_length]; omega)] at e2
        cases e2
theorem number_f (s : ByteArray) (hs : s.size < 1099511627776) (a : Nat) (ha : a ≤ s.size) (ok : Bool) (w : ByteArray) : Ev (fun k => points_reader_number.f k s (a : Int) ok w) (W4 s (rnS (bytesOf s) false (bytesOf w) a ok)) := by
  unfold points_reader_number.f rnS
  cases ok
  · exact Ev.congr (fun k => if_neg Bool.false_ne_true) (Ev.now _)
  · rw [if_pos rfl]
    have h1 := numS_le false ((bytesOf s).drop a)
    have h2 := drop_len s a
    refine Ev.congr (fun k => if_pos rfl) (Ev.bind (Number_f s hs false a ha) (Ev.bind (a := W4 s (rwS (bytesOf s) [bytesOf w] (a + (numS false ((bytesOf s).drop a)).2.1) (numS false ((bytesOf s).drop a)).2.2)) ?_ (Ev.now _)))
    exact word_f s hs (a + (numS false ((bytesOf s).drop a)).2.1) (by omega) _ [w] (by simp)
end Go.Proofs.YtmfmojldebhboaaDoor.Pt
