/- What the printed reference's parser of meshes comes to, told of bytes. -/
import Derived.Test.YtgpepiefojjkaaaPtH
namespace Go.Proofs.Ytgpepiefojjkaaa.Pt
open Go.RowKit Go.Proofs.YtgpepiefojjkaaaW.PrintWords Go.Proofs.YtgpepiefojjkaaaW.PrintLast Go.Proofs.YtgpepiefojjkaaaW.PrintMore Go.Proofs.Ytgpepiefojjkaaa.ZFil
set_option linter.unusedVariables false
set_option linter.unusedSimpArgs false

/-- Numbers one behind the other, up to the first that fails. -/
def stopS (t : List Int) : List (Bool × List Int) → List Int → Nat → Bool → List Int × Nat × Bool
  | [], acc, a, ok => (acc, a, ok)
  | x :: l, acc, a, ok => if ok = true then stopS t l (acc ++ [(rnS t x.1 x.2 a true).1]) (rnS t x.1 x.2 a true).2.1 (rnS t x.1 x.2 a true).2.2 else (acc, a, false)
theorem stop_chain (t : List Int) (l : List (Bool × List Int)) (acc : List Int) (a : Nat) (ok : Bool) : (stopS t l acc a ok).2 = (chainS t l acc a ok).2 ∧ ((chainS t l acc a ok).2.2 = true → (stopS t l acc a ok).1 = (chainS t l acc a ok).1) := by
  induction l generalizing acc a ok with
  | nil => exact ⟨rfl, fun _ => rfl⟩
  | cons x l ih =>
    cases ok
    · have h := chainS_false t (x :: l) acc a
      simp only [stopS]
      rw [if_neg Bool.false_ne_true, h]
      exact ⟨rfl, fun e => by cases e⟩
    · simp only [stopS, chainS]
      rw [if_pos trivial]
      exact ih _ _ _
def spS (many : Nat) (minus : Bool) (i : Nat) : Bool × List Int := (minus && decide ((i : Int).tmod 3 > 0), if i + 1 = many then [10] else [32])
theorem nums_l0 (s : ByteArray) (hs : s.size < 1099511627776) (many : Nat) (hm : many < 100) (minus : Bool) (LL : List (Bool × List Int)) (hlen : LL.length = many) (hL : ∀ j, j < many → LL[j]? = some (spS many minus j)) : ∀ (d i a : Nat) (ok : Bool) (acc : List Int), many - i = d → i ≤ many → a ≤ s.size → acc.length ≤ i →
    Ev (fun k => zelligeref24_nums.l0 k s (a : Int) (many : Int) minus acc ok (i : Int)) ((stopS (bytesOf s) (LL.drop i) acc a ok).1, (((stopS (bytesOf s) (LL.drop i) acc a ok).2.1 : Nat) : Int), (stopS (bytesOf s) (LL.drop i) acc a ok).2.2) := by
  have lb := bytesOf_length s
  have done : ∀ (a i : Nat) (ok : Bool) (acc : List Int), Ev (fun k => zelligeref24_nums.j1 k s (a : Int) (many : Int) minus acc ok (i : Int) false) (acc, (a : Int), ok) := by
    intro a i ok acc
    refine Ev.step (f := fun _ => some _) (fun k => ?_) (Ev.now _)
    show zelligeref24_nums.j1 (k + 1) _ _ _ _ _ _ _ _ = _
    simp only [zelligeref24_nums.j1]
    rw [if_neg Bool.false_ne_true]
  intro d
  induction d with
  | zero =>
    intro i a ok acc hd hi ha hacc
    obtain rfl : i = many := by omega
    rw [List.drop_of_length_le (by omega)]
    refine Ev.step (fun k => ?_) (done a i ok acc)
    show zelligeref24_nums.l0 (k + 1) _ _ _ _ _ _ _ = _
    simp only [zelligeref24_nums.l0]
    rw [if_neg (by omega)]
  | succ d ih =>
    intro i a ok acc hd hi ha hacc
    have hi' : i < LL.length := by omega
    have e1 : LL.drop i = spS many minus i :: LL.drop (i + 1) := by
      rw [List.drop_eq_getElem_cons hi']
      have := hL i (by omega)
      rw [List.getElem?_eq_getElem hi'] at this
      injection this with this
      rw [this]
    rw [e1]
    simp only [stopS]
    have ent : ∀ k, zelligeref24_nums.l0 (k + 1) s (a : Int) (many : Int) minus acc ok (i : Int) = zelligeref24_nums.j1 k s (a : Int) (many : Int) minus acc ok (i : Int) ok := by
      intro k
      simp only [zelligeref24_nums.l0]
      rw [if_pos (by omega)]
    refine Ev.step ent ?_
    cases ok
    · rw [if_neg Bool.false_ne_true]
      exact done a i false acc
    · rw [if_pos rfl]
      have hwm : wrap64 ((many : Int) - 1) = ((many - 1 : Nat) : Int) := by unfold wrap64; omega
      have go : ∀ (w : ByteArray), w.size < 1000 → bytesOf w = (spS many minus i).2 → (∀ k, zelligeref24_nums.j1 (k + 1) s (a : Int) (many : Int) minus acc true (i : Int) true = (zelligeref23_Take.f k s (a : Int) (spS many minus i).1 w).bind fun b => if acc.length < 17592186044416 then zelligeref24_nums.l0 k s b.2.1 (many : Int) minus (acc ++ [b.1]) b.2.2 ((i + 1 : Nat) : Int) else none) →
          Ev (fun k => zelligeref24_nums.j1 k s (a : Int) (many : Int) minus acc true (i : Int) true) ((stopS (bytesOf s) (LL.drop (i + 1)) (acc ++ [(rnS (bytesOf s) (spS many minus i).1 (spS many minus i).2 a true).1]) (rnS (bytesOf s) (spS many minus i).1 (spS many minus i).2 a true).2.1 (rnS (bytesOf s) (spS many minus i).1 (spS many minus i).2 a true).2.2).1, (((stopS (bytesOf s) (LL.drop (i + 1)) (acc ++ [(rnS (bytesOf s) (spS many minus i).1 (spS many minus i).2 a true).1]) (rnS (bytesOf s) (spS many minus i).1 (spS many minus i).2 a true).2.1 (rnS (bytesOf s) (spS many minus i).1 (spS many minus i).2 a true).2.2).2.1 : Nat) : Int), (stopS (bytesOf s) (LL.drop (i + 1)) (acc ++ [(rnS (bytesOf s) (spS many minus i).1 (spS many minus i).2 a true).1]) (rnS (bytesOf s) (spS many minus i).1 (spS many minus i).2 a true).2.1 (rnS (bytesOf s) (spS many minus i).1 (spS many minus i).2 a true).2.2).2.2) := by
        intro w hw hb hst
        have n1 := Take_f s hs (spS many minus i).1 a ha w hw
        have i1 := rnS_le (bytesOf s) (spS many minus i).1 (bytesOf w) a true (by omega)
        rw [← hb]
        generalize rnS (bytesOf s) (spS many minus i).1 (bytesOf w) a true = x at *
        refine Ev.step hst (Ev.bind n1 (Ev.congr (fun k => if_pos (by omega)) ?_))
        exact ih (i + 1) x.2.1 x.2.2 (acc ++ [x.1]) (by omega) (by omega) (by omega) (by rw [List.length_append]; simp; omega)
      by_cases hlast : i + 1 = many
      · refine go (⟨#[10]⟩ : ByteArray) (by decide) (by unfold spS; rw [if_pos hlast]; rfl) (fun k => ?_)
        simp only [zelligeref24_nums.j1]
        rw [if_pos trivial, hwm, if_pos (by omega), wsz i (by omega)]
        unfold spS
        cases minus
        · rw [if_neg Bool.false_ne_true, Bool.false_and]
        · rw [if_pos rfl, Bool.true_and]
      · refine go (⟨#[32]⟩ : ByteArray) (by decide) (by unfold spS; rw [if_neg hlast]; rfl) (fun k => ?_)
        simp only [zelligeref24_nums.j1]
        rw [if_pos trivial, hwm, if_neg (by omega), wsz i (by omega)]
        unfold spS
        cases minus
        · rw [if_neg Bool.false_ne_true, Bool.false_and]
        · rw [if_pos rfl, Bool.true_and]
theorem nums3 (s : ByteArray) (hs : s.size < 1099511627776) (a : Nat) (ha : a ≤ s.size) : ∃ l : List Int, Ev (fun k => zelligeref24_nums.f k s (a : Int) 3 false) (l, (((chainS (bytesOf s) (threeL false [10]) [] a true).2.1 : Nat) : Int), (chainS (bytesOf s) (threeL false [10]) [] a true).2.2) ∧ ((chainS (bytesOf s) (threeL false [10]) [] a true).2.2 = true → l = (chainS (bytesOf s) (threeL false [10]) [] a true).1) := by
  obtain ⟨g1, g2⟩ := stop_chain (bytesOf s) (threeL false [10]) [] a true
  have h := nums_l0 s hs 3 (by omega) false (threeL false [10]) rfl (by decide) 3 0 a true [] rfl (by omega) ha (by simp)
  rw [List.drop_zero, g1] at h
  exact ⟨_, h, g2⟩
theorem nums9 (s : ByteArray) (hs : s.size < 1099511627776) (a : Nat) (ha : a ≤ s.size) : ∃ l : List Int, Ev (fun k => zelligeref24_nums.f k s (a : Int) 9 true) (l, (((chainS (bytesOf s) nineL [] a true).2.1 : Nat) : Int), (chainS (bytesOf s) nineL [] a true).2.2) ∧ ((chainS (bytesOf s) nineL [] a true).2.2 = true → l = (chainS (bytesOf s) nineL [] a true).1) := by
  obtain ⟨g1, g2⟩ := stop_chain (bytesOf s) nineL [] a true
  have h := nums_l0 s hs 9 (by omega) true nineL rfl (by decide) 9 0 a true [] rfl (by omega) ha (by simp)
  rw [List.drop_zero, g1] at h
  exact ⟨_, h, g2⟩
/-- The line's word, looked for in the other order. -/
theorem words_turn (t : List Int) : wordsS t [endW, faceW, siteW] 0 0 = (if (wordsS t [siteW, faceW, endW] 0 0).2.2 = true then 2 - (wordsS t [siteW, faceW, endW] 0 0).1 else -1, (wordsS t [siteW, faceW, endW] 0 0).2) := by
  cases t with
  | nil => rfl
  | cons c cs =>
    unfold siteW faceW endW
    by_cases h1 : c = 115
    · subst h1
      by_cases g : cpl cs [105, 116, 101, 32] = 4 <;> simp [wordsS, cpl, g]
    · by_cases h2 : c = 102
      · subst h2
        by_cases g : cpl cs [97, 99, 101, 32] = 4 <;> simp [wordsS, cpl, g]
      · by_cases h3 : c = 101
        · subst h3
          by_cases g : cpl cs [110, 100, 10] = 3 <;> simp [wordsS, cpl, g]
        · simp [wordsS, cpl, h1, h2, h3]
theorem words_which (t : List Int) : (wordsS t [siteW, faceW, endW] 0 0).2.2 = true → (wordsS t [siteW, faceW, endW] 0 0).1 = 0 ∨ (wordsS t [siteW, faceW, endW] 0 0).1 = 1 ∨ (wordsS t [siteW, faceW, endW] 0 0).1 = 2 := by
  simp only [wordsS]
  split
  · simp
  · split
    · simp
    · split <;> simp
theorem words_which2 (t : List Int) : (wordsS t [endW, faceW] 0 0).2.2 = true → (wordsS t [endW, faceW] 0 0).1 = 0 ∨ (wordsS t [endW, faceW] 0 0).1 = 1 := by
  simp only [wordsS]
  split
  · simp
  · split <;> simp
theorem words_no (t : List Int) (ws : List (List Int)) (i : Int) (f : Nat) : (wordsS t ws i f).2.2 = false → (wordsS t ws i f).1 = -1 := by
  induction ws generalizing i f with
  | nil => simp [wordsS]
  | cons w ws ih =>
    simp only [wordsS]
    split
    · simp
    · exact ih _ _
abbrev B3 : List ByteArray := [(⟨#[101, 110, 100, 10]⟩ : ByteArray), (⟨#[102, 97, 99, 101, 32]⟩ : ByteArray), (⟨#[115, 105, 116, 101, 32]⟩ : ByteArray)]
abbrev B2 : List ByteArray := [(⟨#[101, 110, 100, 10]⟩ : ByteArray), (⟨#[102, 97, 99, 101, 32]⟩ : ByteArray)]
theorem RF_bad (s : ByteArray) (W : List ByteArray) (n : Int × Int × Int) (l : List S41) (f : List S50) (a : Nat) : Ev (fun k => zelligeref24_Parse.l0 k s (a : Int) false W n.1 n.2.1 n.2.2 l f) (0, 0, 0, [], [], (a : Int), 17) := by
  refine Ev.step (f := fun _ => some _) (fun k => ?_) (Ev.now _)
  show zelligeref24_Parse.l0 (k + 1) _ _ _ _ _ _ _ _ _ = _
  simp only [zelligeref24_Parse.l0]
  rw [if_neg Bool.false_ne_true]
theorem RF_j1bad (s : ByteArray) (W : List ByteArray) (n : Int × Int × Int) (l : List S41) (f : List S50) (a : Nat) (q : Int) : Ev (fun k => zelligeref24_Parse.j1 k s (a : Int) false W q false n.1 n.2.1 n.2.2 l f) (0, 0, 0, [], [], (a : Int), 17) := by
  refine Ev.step (f := fun k => zelligeref24_Parse.j2 k s (a : Int) false W false n.1 n.2.1 n.2.2 l f) (fun k => ?_) (Ev.step (fun k => ?_) (RF_bad s W n l f a))
  · show zelligeref24_Parse.j1 (k + 1) _ _ _ _ _ _ _ _ _ _ _ = _
    simp only [zelligeref24_Parse.j1]
    rw [if_neg Bool.false_ne_true, if_neg Bool.false_ne_true]
  · show zelligeref24_Parse.j2 (k + 1) _ _ _ _ _ _ _ _ _ _ = _
    simp only [zelligeref24_Parse.j2]
    rw [if_neg Bool.false_ne_true, if_neg Bool.false_ne_true]
theorem finF_false (n : Int × Int × Int) (m : Nat) (l : List S41) (f : List S50) (a : Nat) : finF n m l (f, a, false) = (0, 0, 0, [], [], (a : Int), 17) := by
  unfold finF
  rw [if_neg (fun e => Bool.false_ne_true e.1)]
/-- The line's end: all is told. -/
theorem RF_end (s : ByteArray) (W : List ByteArray) (n : Int × Int × Int) (l : List S41) (f : List S50) (a : Nat) (q : Int) : Ev (fun k => zelligeref24_Parse.j1 k s (a : Int) true W q true n.1 n.2.1 n.2.2 l f) (finF n s.size l (f, a, true)) := by
  refine Ev.step (f := fun _ => some _) (fun k => ?_) (Ev.now _)
  show zelligeref24_Parse.j1 (k + 1) _ _ _ _ _ _ _ _ _ _ _ = _
  simp only [zelligeref24_Parse.j1]
  rw [if_pos trivial]
  have := fin_f s n l f a true
  rw [if_pos rfl] at this
  exact this
/-- A face's line. -/
theorem RF_face (s : ByteArray) (hs : s.size < 1099511627776) (W : List ByteArray) (n : Int × Int × Int) (l : List S41) (f : List S50) (a : Nat) (ha : a ≤ s.size) (hf : f.length ≤ a) (q : Int) (hq : (q == 2) = false) (r : Int × Int × Int × List S41 × List S50 × Int × Int)
    (h1 : (chainS (bytesOf s) nineL [] a true).2.2 = true → Ev (fun k => zelligeref24_Parse.l0 k s (((chainS (bytesOf s) nineL [] a true).2.1 : Nat) : Int) true B2 n.1 n.2.1 n.2.2 l (f ++ [mkF (chainS (bytesOf s) nineL [] a true).1])) r)
    (h2 : (chainS (bytesOf s) nineL [] a true).2.2 = false → r = (0, 0, 0, [], [], (((chainS (bytesOf s) nineL [] a true).2.1 : Nat) : Int), 17)) : Ev (fun k => zelligeref24_Parse.j1 k s (a : Int) true W q false n.1 n.2.1 n.2.2 l f) r := by
  obtain ⟨li, n9, hli⟩ := nums9 s hs a ha
  have hlen := chainS_len (bytesOf s) nineL [] a true
  generalize chainS (bytesOf s) nineL [] a true = c at *
  obtain ⟨c1, c2, c3⟩ := c
  simp only at n9 hli hlen h1 h2
  refine Ev.step (f := fun k => zelligeref24_Parse.j2 k s (a : Int) true W false n.1 n.2.1 n.2.2 l f) (fun k => ?_) ?_
  · show zelligeref24_Parse.j1 (k + 1) _ _ _ _ _ _ _ _ _ _ _ = _
    simp only [zelligeref24_Parse.j1]
    rw [if_neg Bool.false_ne_true, if_pos trivial, hq]
  · refine Ev.step (fun k => ?_) (Ev.bind (f := fun k b => if b.2.2 = true then (if 0 < (b.1.length : Int) then (if 1 < (b.1.length : Int) then (if 2 < (b.1.length : Int) then (if 3 < (b.1.length : Int) then (if 4 < (b.1.length : Int) then (if 5 < (b.1.length : Int) then (if 6 < (b.1.length : Int) then (if 7 < (b.1.length : Int) then (if 8 < (b.1.length : Int) then (if f.length < 1954687338268 then (zelligeref24_Parse.l0 k s b.2.1 b.2.2 B2 n.1 n.2.1 n.2.2 l (f ++ [(⟨(⟨rd b.1 0, rd b.1 1, rd b.1 2⟩ : S41), (⟨rd b.1 3, rd b.1 4, rd b.1 5⟩ : S41), (⟨rd b.1 6, rd b.1 7, rd b.1 8⟩ : S41)⟩ : S50)])) else none) else none) else none) else none) else none) else none) else none) else none) else none) else none) else zelligeref24_Parse.l0 k s b.2.1 b.2.2 B2 n.1 n.2.1 n.2.2 l f) n9 ?_)
    · show zelligeref24_Parse.j2 (k + 1) _ _ _ _ _ _ _ _ _ _ = _
      simp only [zelligeref24_Parse.j2, Option.bind_some]
      rw [if_neg Bool.false_ne_true, if_pos trivial]
    · cases c3
      · rw [h2 rfl]
        exact Ev.congr (fun k => if_neg Bool.false_ne_true) (RF_bad s B2 n l f c2)
      · have e := hli rfl
        subst e
        have h9 : li.length = 9 := hlen
        refine Ev.congr (fun k => ?_) (h1 rfl)
        simp only
        rw [if_pos trivial, if_pos (by omega), if_pos (by omega), if_pos (by omega), if_pos (by omega), if_pos (by omega), if_pos (by omega), if_pos (by omega), if_pos (by omega), if_pos (by omega), if_pos (by omega)]
        rfl
/-- A site's line. -/
theorem RF_site (s : ByteArray) (hs : s.size < 1099511627776) (W : List ByteArray) (n : Int × Int × Int) (l : List S41) (f : List S50) (a : Nat) (ha : a ≤ s.size) (hf : l.length ≤ a) (r : Int × Int × Int × List S41 × List S50 × Int × Int)
    (h1 : (chainS (bytesOf s) (threeL false [10]) [] a true).2.2 = true → Ev (fun k => zelligeref24_Parse.l0 k s (((chainS (bytesOf s) (threeL false [10]) [] a true).2.1 : Nat) : Int) true W n.1 n.2.1 n.2.2 (l ++ [mkS (chainS (bytesOf s) (threeL false [10]) [] a true).1]) f) r)
    (h2 : (chainS (bytesOf s) (threeL false [10]) [] a true).2.2 = false → r = (0, 0, 0, [], [], (((chainS (bytesOf s) (threeL false [10]) [] a true).2.1 : Nat) : Int), 17)) : Ev (fun k => zelligeref24_Parse.j1 k s (a : Int) true W 2 false n.1 n.2.1 n.2.2 l f) r := by
  obtain ⟨li, n3, hli⟩ := nums3 s hs a ha
  have hlen := chainS_len (bytesOf s) (threeL false [10]) [] a true
  generalize chainS (bytesOf s) (threeL false [10]) [] a true = c at *
  obtain ⟨c1, c2, c3⟩ := c
  simp only at n3 hli hlen h1 h2
  refine Ev.step (f := fun k => zelligeref24_Parse.j2 k s (a : Int) true W true n.1 n.2.1 n.2.2 l f) (fun k => ?_) ?_
  · show zelligeref24_Parse.j1 (k + 1) _ _ _ _ _ _ _ _ _ _ _ = _
    simp only [zelligeref24_Parse.j1]
    rw [if_neg Bool.false_ne_true, if_pos trivial]
    rfl
  · refine Ev.step (fun k => ?_) (Ev.bind (f := fun k b => if b.2.2 = true then (if 0 < (b.1.length : Int) then (if 1 < (b.1.length : Int) then (if 2 < (b.1.length : Int) then (if l.length < 5864062014805 then (zelligeref24_Parse.l0 k s b.2.1 b.2.2 W n.1 n.2.1 n.2.2 (l ++ [(⟨rd b.1 0, rd b.1 1, rd b.1 2⟩ : S41)]) f) else none) else none) else none) else none) else zelligeref24_Parse.l0 k s b.2.1 b.2.2 W n.1 n.2.1 n.2.2 l f) n3 ?_)
    · show zelligeref24_Parse.j2 (k + 1) _ _ _ _ _ _ _ _ _ _ = _
      simp only [zelligeref24_Parse.j2]
      rw [if_pos trivial]
    · cases c3
      · rw [h2 rfl]
        exact Ev.congr (fun k => if_neg Bool.false_ne_true) (RF_bad s W n l f c2)
      · have e := hli rfl
        subst e
        have h9 : li.length = 3 := hlen
        refine Ev.congr (fun k => ?_) (h1 rfl)
        simp only
        rw [if_pos trivial, if_pos (by omega), if_pos (by omega), if_pos (by omega), if_pos (by omega)]
        rfl
theorem RFaces (s : ByteArray) (hs : s.size < 1099511627776) (n : Int × Int × Int) (l : List S41) : ∀ (d a : Nat) (f : List S50), s.size < a + d → a ≤ s.size → f.length ≤ a →
    Ev (fun k => zelligeref24_Parse.l0 k s (a : Int) true B2 n.1 n.2.1 n.2.2 l f) (finF n s.size l (facesS mkF (bytesOf s) d f (lineS (bytesOf s) false a true).1 (lineS (bytesOf s) false a true).2.1 (lineS (bytesOf s) false a true).2.2)) := by
  have lb := bytesOf_length s
  intro d
  induction d with
  | zero => intro a f h1 h2; omega
  | succ d ih =>
    intro a f h1 h2 h3
    have hw := RWords_f s hs a h2 B2 (by simp) (by decide)
    rw [show B2.map bytesOf = [endW, faceW] from rfl] at hw
    have g1 : W3 a (wordsS ((bytesOf s).drop a) [endW, faceW] 0 0) = W2 (lineS (bytesOf s) false a true) := rfl
    have g2 : (lineS (bytesOf s) false a true).2.2 = true → (lineS (bytesOf s) false a true).1 = 0 ∨ (lineS (bytesOf s) false a true).1 = 1 := words_which2 ((bytesOf s).drop a)
    have g3 : (lineS (bytesOf s) false a true).2.2 = false → (lineS (bytesOf s) false a true).1 = -1 := words_no ((bytesOf s).drop a) _ _ _
    have hq := lineS_le (bytesOf s) false a true (by omega)
    have st := line_more (bytesOf s) false a true _ rfl (by omega)
    rw [g1] at hw
    generalize lineS (bytesOf s) false a true = q at *
    obtain ⟨q1, q2, q3⟩ := q
    simp only at g2 g3 hq st
    refine Ev.step (fun k => ?_) (Ev.bind (f := fun k p => if p.2.2 = true then zelligeref24_Parse.j1 k s p.2.1 p.2.2 B2 p.1 (p.1 == 0) n.1 n.2.1 n.2.2 l f else zelligeref24_Parse.j1 k s p.2.1 p.2.2 B2 p.1 false n.1 n.2.1 n.2.2 l f) hw ?_)
    · show zelligeref24_Parse.l0 (k + 1) _ _ _ _ _ _ _ _ _ = _
      simp only [zelligeref24_Parse.l0]
      rw [if_pos trivial]
    · simp only [W2]
      cases q3
      · rw [facesS_stop mkF _ _ _ _ _ _ (by rw [g3 rfl]; decide), finF_false]
        exact Ev.congr (fun k => if_neg Bool.false_ne_true) (RF_j1bad s B2 n l f q2 q1)
      · refine Ev.congr (fun k => if_pos rfl) ?_
        rcases g2 rfl with rfl | rfl
        · rw [facesS_stop mkF _ _ _ _ _ _ (by decide)]
          exact RF_end s B2 n l f q2 0
        · have e5 := st (.inl rfl)
          simp only [facesS]
          rw [if_pos trivial]
          have i1 := chainS_le (bytesOf s) nineL [] q2 true hq
          have f1 := chainS_ge (bytesOf s) nineL [] q2 true
          refine RF_face s hs B2 n l f q2 (by omega) (by omega) 1 rfl _ (fun e => ?_) (fun e => ?_)
          · rw [e]
            exact ih _ _ (by omega) (by omega) (by rw [List.length_append]; simp; omega)
          · rw [e]
            have e7 : lineS (bytesOf s) false (chainS (bytesOf s) nineL [] q2 true).2.1 false = (-1, (chainS (bytesOf s) nineL [] q2 true).2.1, false) := rfl
            rw [e7, facesS_stop mkF _ _ _ _ _ _ (show (-1 : Int) ≠ 1 from by decide), finF_false]
theorem RSites (s : ByteArray) (hs : s.size < 1099511627776) (n : Int × Int × Int) : ∀ (d a : Nat) (l : List S41), s.size < a + d → a ≤ s.size → l.length ≤ a →
    Ev (fun k => zelligeref24_Parse.l0 k s (a : Int) true B3 n.1 n.2.1 n.2.2 l []) (finF n s.size (sitesS mkS mkF (bytesOf s) d l (lineS (bytesOf s) true a true).1 (lineS (bytesOf s) true a true).2.1 (lineS (bytesOf s) true a true).2.2).1 (sitesS mkS mkF (bytesOf s) d l (lineS (bytesOf s) true a true).1 (lineS (bytesOf s) true a true).2.1 (lineS (bytesOf s) true a true).2.2).2) := by
  have lb := bytesOf_length s
  intro d
  induction d with
  | zero => intro a l h1 h2; omega
  | succ d ih =>
    intro a l h1 h2 h3
    have hw := RWords_f s hs a h2 B3 (by simp) (by decide)
    rw [show B3.map bytesOf = [endW, faceW, siteW] from rfl, words_turn] at hw
    have g1 : W3 a (if (wordsS ((bytesOf s).drop a) [siteW, faceW, endW] 0 0).2.2 = true then 2 - (wordsS ((bytesOf s).drop a) [siteW, faceW, endW] 0 0).1 else -1, (wordsS ((bytesOf s).drop a) [siteW, faceW, endW] 0 0).2) = W2 (if (lineS (bytesOf s) true a true).2.2 = true then 2 - (lineS (bytesOf s) true a true).1 else -1, (lineS (bytesOf s) true a true).2) := rfl
    have g2 : (lineS (bytesOf s) true a true).2.2 = true → (lineS (bytesOf s) true a true).1 = 0 ∨ (lineS (bytesOf s) true a true).1 = 1 ∨ (lineS (bytesOf s) true a true).1 = 2 := words_which ((bytesOf s).drop a)
    have g3 : (lineS (bytesOf s) true a true).2.2 = false → (lineS (bytesOf s) true a true).1 = -1 := words_no ((bytesOf s).drop a) _ _ _
    have hq := lineS_le (bytesOf s) true a true (by omega)
    have st := line_more (bytesOf s) true a true _ rfl (by omega)
    rw [g1] at hw
    generalize lineS (bytesOf s) true a true = q at *
    obtain ⟨q1, q2, q3⟩ := q
    simp only at g2 g3 hq st hw
    refine Ev.step (fun k => ?_) (Ev.bind (f := fun k p => if p.2.2 = true then zelligeref24_Parse.j1 k s p.2.1 p.2.2 B3 p.1 (p.1 == 0) n.1 n.2.1 n.2.2 l [] else zelligeref24_Parse.j1 k s p.2.1 p.2.2 B3 p.1 false n.1 n.2.1 n.2.2 l []) hw ?_)
    · show zelligeref24_Parse.l0 (k + 1) _ _ _ _ _ _ _ _ _ = _
      simp only [zelligeref24_Parse.l0]
      rw [if_pos trivial]
    · simp only [W2]
      cases q3
      · have e1 := g3 rfl
        subst e1
        have e2 : sitesS mkS mkF (bytesOf s) (d + 1) l (-1) q2 false = (l, [], q2, false) := by
          simp only [sitesS]
          rw [if_neg (by decide), facesS_stop mkF _ _ _ _ _ _ (by decide)]
        rw [e2, finF_false]
        exact Ev.congr (fun k => if_neg Bool.false_ne_true) (RF_j1bad s B3 n l [] q2 _)
      · refine Ev.congr (fun k => if_pos rfl) ?_
        rcases g2 rfl with rfl | rfl | rfl
        · have e5 := st (.inr ⟨trivial, rfl⟩)
          simp only [sitesS, if_true]
          have i1 := chainS_le (bytesOf s) (threeL false [10]) [] q2 true hq
          have f1 := chainS_ge (bytesOf s) (threeL false [10]) [] q2 true
          refine RF_site s hs B3 n l [] q2 (by omega) (by omega) _ (fun e => ?_) (fun e => ?_)
          · rw [e]
            exact ih _ _ (by omega) (by omega) (by rw [List.length_append]; simp; omega)
          · rw [e]
            have e7 : lineS (bytesOf s) true (chainS (bytesOf s) (threeL false [10]) [] q2 true).2.1 false = (-1, (chainS (bytesOf s) (threeL false [10]) [] q2 true).2.1, false) := rfl
            rw [e7]
            have e8 : ∀ (k : Nat) (acc : List S41) (b : Nat), sitesS mkS mkF (bytesOf s) k acc (-1) b false = (acc, [], b, false) := by
              intro k acc b
              cases k with
              | zero => rfl
              | succ k => simp only [sitesS]; rw [if_neg (by decide), facesS_stop mkF _ _ _ _ _ _ (by decide)]
            simp only [e8]
            rw [finF_false]
        · have e5 := st (.inl rfl)
          simp only [sitesS]
          rw [if_neg (show ¬ ((1 : Int) = 0) from by decide)]
          simp only [facesS, if_true]
          have i1 := chainS_le (bytesOf s) nineL [] q2 true hq
          have f1 := chainS_ge (bytesOf s) nineL [] q2 true
          refine RF_face s hs B3 n l [] q2 (by omega) (by simp) _ rfl _ (fun e => ?_) (fun e => ?_)
          · rw [e]
            exact RFaces s hs n l d _ _ (by omega) (by omega) (by simp; omega)
          · rw [e]
            have e7 : lineS (bytesOf s) false (chainS (bytesOf s) nineL [] q2 true).2.1 false = (-1, (chainS (bytesOf s) nineL [] q2 true).2.1, false) := rfl
            rw [e7]
            simp only
            rw [facesS_stop mkF _ _ _ _ _ _ (by decide), finF_false]
        · simp only [sitesS]
          rw [if_neg (show ¬ ((2 : Int) = 0) from by decide), facesS_stop mkF _ _ _ _ _ _ (show (2 : Int) ≠ 1 from by decide)]
          exact RF_end s B3 n l [] q2 _
end Go.Proofs.Ytgpepiefojjkaaa.Pt
