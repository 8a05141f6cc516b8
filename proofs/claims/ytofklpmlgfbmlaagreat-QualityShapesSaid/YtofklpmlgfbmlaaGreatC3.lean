/- The plain law of the models: the references, whole numbers. -/
import Derived.Test.YtofklpmlgfbmlaaGreatC1
import Derived.Test.YtofklpmlgfbmlaaGreatC2
set_option linter.unusedVariables false
set_option linter.unusedSimpArgs false
/- What the printed functions of the reference for nat come to, told of numbers: Trim, Of, Nat, Same. -/
namespace Go.Proofs.YtofklpmlgfbmlaaGreat.ZRatP
open Go.RowKit Go.Proofs.YtofklpmlgfbmlaaGreat.Wd Go.Proofs.YtofklpmlgfbmlaaGreat.Num Go.Proofs.YtofklpmlgfbmlaaGreat.ZRat
set_option linter.unusedVariables false
set_option linter.unusedSimpArgs false

theorem RTrim_l0 (l : List Int) (hW : WB 65536 l) (hb : l.length < 4611686018427387904) : ∀ (i : Nat), i ≤ l.length → Ev (fun k => zelligeref03_Trim.l0 k l (i : Int)) (NB 65536 (VB 65536 (l.take i))) := by
  intro i
  induction i with
  | zero =>
    intro hi
    rw [List.take_zero, VB, NB_zero]
    refine Ev.step (f := fun _ => some []) (fun k => ?_) (Ev.now _)
    show zelligeref03_Trim.l0 (k + 1) l ((0 : Nat) : Int) = _
    simp only [zelligeref03_Trim.l0]
    rw [if_neg (by omega), if_pos (by omega), if_pos (by omega), Int.toNat_natCast, List.take_zero]
  | succ i ih =>
    intro hi
    have hw : wrap64 (((i + 1 : Nat) : Int) - 1) = (i : Int) := by rw [w64in _ (by omega) (by omega)]; omega
    have HW := Aside0.mk hw
    clear hw
    by_cases hx : rd l (i : Int) = 0
    · have e := VB_take_succ 65536 l i (by omega)
      rw [hx, Int.toNat_zero, Nat.mul_zero, Nat.add_zero] at e
      rw [e]
      refine Ev.step (fun k => ?_) (ih (by omega))
      show zelligeref03_Trim.l0 (k + 1) l ((i + 1 : Nat) : Int) = _
      simp only [zelligeref03_Trim.l0]
      rw [HW.out, if_pos (by omega), if_pos (by omega), if_pos (by omega), if_pos hx]
    · have hc := NB_canon (b := 65536) (by omega) (l.take (i + 1)) (WB_take hW _) (fun m y e => by
        rw [take_rd l i (by omega)] at e
        have := List.append_inj' e rfl
        have h2 : rd l (i : Int) = y := by simpa using this.2
        rw [← h2]; exact hx)
      rw [hc]
      refine Ev.step (f := fun _ => some (l.take (i + 1))) (fun k => ?_) (Ev.now _)
      show zelligeref03_Trim.l0 (k + 1) l ((i + 1 : Nat) : Int) = _
      simp only [zelligeref03_Trim.l0]
      rw [HW.out, if_pos (by omega), if_pos (by omega), if_pos (by omega), if_neg hx, if_pos (by omega), if_pos (by omega), Int.toNat_natCast]
theorem RTrim_f (l : List Int) (hW : WB 65536 l) (hb : l.length < 4611686018427387904) : Ev (fun k => zelligeref03_Trim.f k l) (NB 65536 (VB 65536 l)) := by
  have := RTrim_l0 l hW hb l.length (Nat.le_refl _)
  rw [List.take_of_length_le (Nat.le_refl _)] at this
  exact this
theorem pow_16 (i : Nat) : 65536 ^ (2 * i) = 4294967296 ^ i := by
  rw [Nat.pow_mul]
theorem ROf_l0 (l : List Int) (hW : WB 4294967296 l) (hb : l.length < 8796093022207) : ∀ (d i : Nat) (out : List Int), l.length - i = d → i ≤ l.length → out.length = 2 * i → WB 65536 out → VB 65536 out = VB 4294967296 (l.take i) →
    Ev (fun k => zelligeref03_Of.l0 k l out (i : Int)) (NB 65536 (VB 4294967296 l)) := by
  intro d
  induction d with
  | zero =>
    intro i out hd hi ho hWo he
    have hi' : i = l.length := by omega
    subst hi'
    rw [List.take_of_length_le (Nat.le_refl _)] at he
    have h1 := RTrim_f out hWo (by omega)
    rw [he] at h1
    refine Ev.step (fun k => ?c) (Ev.bind (f := ?F) h1 ?d)
    case c =>
      show zelligeref03_Of.l0 (k + 1) l out (l.length : Int) = _
      simp only [zelligeref03_Of.l0]
      rw [if_neg (by omega)]
    case d => exact Ev.now _
  | succ d ih =>
    intro i out hd hi ho hWo he
    have ra := WB_rd hW i (by omega)
    obtain ⟨x, hx⟩ := Int.eq_ofNat_of_zero_le ra.1
    have TA := VB_take_succ 4294967296 l i (by omega)
    rw [hx, Int.toNat_natCast] at TA
    rw [hx] at ra
    have E1 : Aside0 (wrap64 (Int.tmod (x : Int) 65536) = ((x % 65536 : Nat) : Int)) := ⟨by rw [nmod16, w64in _ (by omega) (by omega)]⟩
    have e2 : (Int.tdiv (x : Int) 65536) % 4294967296 = ((x / 65536 : Nat) : Int) := by rw [ndiv16]; omega
    have E2 := Aside0.mk (wsucc i (by omega))
    refine Ev.step (fun k => ?_) (ih (i + 1) (out ++ [((x % 65536 : Nat) : Int), ((x / 65536 : Nat) : Int)]) (by omega) (by omega) (by simp; omega) (WB_append.2 ⟨hWo, WB_cons.2 ⟨by omega, WB_cons.2 ⟨by omega, WB_nil _⟩⟩⟩) ?_)
    · show zelligeref03_Of.l0 (k + 1) l out (i : Int) = _
      simp only [zelligeref03_Of.l0]
      rw [if_pos (by omega), if_pos (by omega), hx, E1.out, e2, Option.bind_some, if_pos (by simp; omega), E2.out]
    · rw [VB_append, ho, pow_16, TA, he, VB, VB, VB, Int.toNat_natCast, Int.toNat_natCast, Nat.mul_zero, Nat.add_zero, Nat.mod_add_div]
theorem ROf_f (l : List Int) (hW : WB 4294967296 l) (hb : l.length < 8796093022207) : Ev (fun k => zelligeref03_Of.f k l) (NB 65536 (VB 4294967296 l)) :=
  ROf_l0 l hW hb _ 0 [] rfl (by omega) rfl (WB_nil _) rfl
end Go.Proofs.YtofklpmlgfbmlaaGreat.ZRatP
/- What the printed functions of nat come to, told of numbers: the reference's order, sum and difference. -/
namespace Go.Proofs.YtofklpmlgfbmlaaGreat.ZRatP
open Go.RowKit Go.Proofs.YtofklpmlgfbmlaaGreat.Wd Go.Proofs.YtofklpmlgfbmlaaGreat.Num Go.Proofs.YtofklpmlgfbmlaaGreat.ZRat
set_option linter.unusedVariables false
set_option linter.unusedSimpArgs false

/-- cmp's loop: the digits from i - 1 down. -/
theorem RCmp_l0 (a b : List Int) (hl : a.length = b.length) (ha : WB 65536 a) (hb : WB 65536 b) (hn : a.length < 4611686018427387904) : ∀ (i : Nat), i ≤ a.length →
    VB 65536 (a.drop i) = VB 65536 (b.drop i) →
    Ev (fun k => zelligeref03_Cmp.l0 k a b ((i : Int) - 1)) (if VB 65536 a < VB 65536 b then -1 else if VB 65536 b < VB 65536 a then 1 else 0) := by
  intro i
  induction i with
  | zero =>
    intro hi he
    refine Ev.step (f := fun _ => some 0) (fun k => ?_) ?_
    · show zelligeref03_Cmp.l0 (k + 1) a b _ = _
      simp only [zelligeref03_Cmp.l0]
      rw [if_neg (by omega)]
    · simp only [List.drop_zero] at he
      rw [he, if_neg (by omega), if_neg (by omega)]
      exact Ev.now _
  | succ i ih =>
    intro hi he
    have ea := VB_split 65536 a i (by omega)
    have eb := VB_split 65536 b i (by omega)
    have da := VB_drop_rd 65536 a i (by omega)
    have db := VB_drop_rd 65536 b i (by omega)
    have ra := WB_rd ha i (by omega)
    have rb := WB_rd hb i (by omega)
    have la := VB_lt (by omega) (WB_take ha i)
    have lb := VB_lt (by omega) (WB_take hb i)
    have lta : (a.take i).length = i := by rw [List.length_take]; omega
    have ltb : (b.take i).length = i := by rw [List.length_take]; omega
    rw [lta] at la
    rw [ltb] at lb
    have e1 : ((i + 1 : Nat) : Int) - 1 = (i : Int) := by omega
    have e2 : wrap64 ((i : Int) - 1) = (i : Int) - 1 := w64in _ (by omega) (by omega)
    rcases Int.lt_trichotomy (rd a (i : Int)) (rd b (i : Int)) with h | h | h
    · refine Ev.step (f := fun _ => some (-1)) (fun k => ?_) ?_
      · show zelligeref03_Cmp.l0 (k + 1) a b _ = _
        simp only [zelligeref03_Cmp.l0]
        rw [e1, if_pos (by omega), if_pos (by omega), if_pos (by omega), if_pos (by omega), if_pos h]
      · have h1 : VB 65536 (a.drop i) + 1 ≤ VB 65536 (b.drop i) := by rw [da, db, he]; omega
        have h2 := Nat.mul_le_mul_left (65536 ^ i) h1
        rw [if_pos (by rw [ea, eb]; rw [Nat.mul_add] at h2; omega)]
        exact Ev.now _
    · refine Ev.step (f := fun k => zelligeref03_Cmp.l0 k a b ((i : Int) - 1)) (fun k => ?_) ?_
      · show zelligeref03_Cmp.l0 (k + 1) a b _ = _
        simp only [zelligeref03_Cmp.l0]
        rw [e1, if_pos (by omega), if_pos (by omega), if_pos (by omega), if_pos (by omega), if_neg (by omega), if_neg (by omega), e2]
      · exact ih (by omega) (by rw [da, db, he, h])
    · refine Ev.step (f := fun _ => some 1) (fun k => ?_) ?_
      · show zelligeref03_Cmp.l0 (k + 1) a b _ = _
        simp only [zelligeref03_Cmp.l0]
        rw [e1, if_pos (by omega), if_pos (by omega), if_pos (by omega), if_pos (by omega), if_neg (by omega), if_pos h]
      · have h1 : VB 65536 (b.drop i) + 1 ≤ VB 65536 (a.drop i) := by rw [da, db, he]; omega
        have h2 := Nat.mul_le_mul_left (65536 ^ i) h1
        rw [Nat.mul_add] at h2
        rw [if_neg (by rw [ea, eb]; omega), if_pos (by rw [ea, eb]; omega)]
        exact Ev.now _
theorem RCmp_f (m n : Nat) (lm : (NB 65536 m).length < 4611686018427387904) : Ev (fun k => zelligeref03_Cmp.f k (NB 65536 m) (NB 65536 n)) (cmpN m n) := by
  unfold zelligeref03_Cmp.f cmpN
  by_cases h1 : (NB 65536 m).length < (NB 65536 n).length
  · have h : m < n := by
      rcases Nat.lt_or_ge m n with h | h
      · exact h
      · have := NB_length_mono (b := 65536) (by omega) h
        omega
    rw [if_pos h]
    refine Ev.congr (fun k => ?_) (Ev.now _)
    rw [if_pos (by omega)]
  by_cases h2 : (NB 65536 n).length < (NB 65536 m).length
  · have h : n < m := by
      rcases Nat.lt_or_ge n m with h | h
      · exact h
      · have := NB_length_mono (b := 65536) (by omega) h
        omega
    rw [if_neg (by omega), if_pos h]
    refine Ev.congr (fun k => ?_) (Ev.now _)
    rw [if_neg (by omega), if_pos (by omega)]
  have hl : (NB 65536 m).length = (NB 65536 n).length := by omega
  have h3 := RCmp_l0 (NB 65536 m) (NB 65536 n) hl (WB_NB _ _) (WB_NB _ _) lm _ (Nat.le_refl _) (by rw [List.drop_of_length_le (Nat.le_refl _), List.drop_of_length_le (by omega)])
  rw [VB_NB (by omega), VB_NB (by omega)] at h3
  refine Ev.congr (fun k => ?_) h3
  rw [if_neg (by omega), if_neg (by omega), wpred _ (by omega)]
theorem r16 (n : Nat) (h : n < 4611686018427387904) : Int.tmod (wrap64 (n : Int)) 65536 = ((n % 65536 : Nat) : Int) ∧ wrap64 (Int.tdiv (wrap64 (n : Int)) 65536) = ((n / 65536 : Nat) : Int) := by
  have e := w64in (n : Int) (by omega) (by omega)
  rw [e, nmod16, ndiv16]
  clear e
  exact ⟨rfl, w64in _ (by omega) (by omega)⟩
theorem RAdd_l0 (a b : List Int) (ha : WB 65536 a) (hb : WB 65536 b) (N : Nat) (la : a.length ≤ N) (lb : b.length ≤ N) (hN : a.length = N ∨ b.length = N) (hb2 : N < 17592186044415) : ∀ (d i : Nat) (out : List Int) (c : Nat), N - i = d → i ≤ N → out.length = i → WB 65536 out → c ≤ 1 →
    Aside0 (VB 65536 out + 65536 ^ i * c = VB 65536 (a.take i) + VB 65536 (b.take i)) →
    Ev (fun k => zelligeref03_Add.l0 k a b out (c : Int) (i : Int)) (NB 65536 (VB 65536 a + VB 65536 b)) := by
  intro d
  induction d with
  | zero =>
    intro i out c hd hi ho hW hc he
    have hi' : i = N := by omega
    subst hi'
    have he := he.out
    rw [List.take_of_length_le la, List.take_of_length_le lb] at he
    have h1 := RTrim_f (out ++ [(c : Int)]) (WB_append.2 ⟨hW, WB_cons.2 ⟨by omega, WB_nil _⟩⟩) (by simp; omega)
    rw [VB_snoc, ho, Int.toNat_natCast, he] at h1
    refine Ev.step (f := fun k => zelligeref03_Add.j1 k a b out (c : Int) (i : Int) false) (fun k => ?_) ?_
    · show zelligeref03_Add.l0 (k + 1) a b out (c : Int) (i : Int) = _
      simp only [zelligeref03_Add.l0]
      rw [if_neg (by omega), decide_eq_false (by omega)]
    · refine Ev.step (fun k => ?c) (Ev.bind (f := ?F) h1 ?d)
      case c =>
        show zelligeref03_Add.j1 (k + 1) a b out (c : Int) (i : Int) false = _
        simp only [zelligeref03_Add.j1]
        rw [if_neg Bool.false_ne_true, if_pos (by omega)]
      case d => exact Ev.now _
  | succ d ih =>
    intro i out c hd hi ho hW hc he
    have TA := Aside0.mk (take_all_rd 65536 a i)
    have TB := Aside0.mk (take_all_rd 65536 b i)
    have E2 := Aside0.mk (wsucc i (by omega))
    -- a step with the sum s
    have go : ∀ x y : Nat, x < 65536 → y < 65536 → (if i < a.length then (rd a (i : Int)).toNat else 0) = x → (if i < b.length then (rd b (i : Int)).toNat else 0) = y →
        Ev (fun k => zelligeref03_Add.l0 k a b (out ++ [(((c + x + y) % 65536 : Nat) : Int)]) (((c + x + y) / 65536 : Nat) : Int) ((i + 1 : Nat) : Int)) (NB 65536 (VB 65536 a + VB 65536 b)) := by
      intro x y hx hy ex ey
      refine ih (i + 1) _ _ (by omega) (by omega) (by simp [ho]) (WB_append.2 ⟨hW, WB_cons.2 ⟨by omega, WB_nil _⟩⟩) (by omega) ⟨?_⟩
      have ta := TA.out
      have tb := TB.out
      rw [ex] at ta
      rw [ey] at tb
      rw [VB_snoc, ho, Int.toNat_natCast, carry_step, ta, tb, Nat.mul_add, Nat.mul_add]
      have := he.out
      omega
    have j1 : ∀ k, zelligeref03_Add.l0 (k + 1) a b out (c : Int) (i : Int) = zelligeref03_Add.j1 k a b out (c : Int) (i : Int) true := by
      intro k
      simp only [zelligeref03_Add.l0]
      by_cases h : (i : Int) < (a.length : Int)
      · rw [if_pos h]
      · rw [if_neg h, decide_eq_true (by omega)]
    refine Ev.step j1 ?_
    by_cases h1 : i < a.length
    · have r := WB_rd ha i h1
      obtain ⟨x, hx⟩ := Int.eq_ofNat_of_zero_le r.1
      rw [hx] at r
      by_cases h2 : i < b.length
      · have q := WB_rd hb i h2
        obtain ⟨y, hy⟩ := Int.eq_ofNat_of_zero_le q.1
        rw [hy] at q
        refine Ev.step (fun k => ?_) (go x y (by omega) (by omega) (by rw [if_pos h1, hx]; rfl) (by rw [if_pos h2, hy]; rfl))
        show zelligeref03_Add.j1 (k + 1) a b out (c : Int) (i : Int) true = _
        obtain ⟨e1, e2⟩ := r16 (c + x + y) (by omega)
        have E1 := Aside0.mk e1
        have E3 := Aside0.mk e2
        clear e1 e2
        have E4 : Aside0 (wrap64 ((c : Int) + (x : Int)) = (c : Int) + (x : Int)) := ⟨w64in _ (by omega) (by omega)⟩
        simp only [zelligeref03_Add.j1]
        rw [if_pos trivial, if_pos (by omega), if_pos (by omega), if_pos (by omega), if_pos (by omega), hx, hy, E4.out, show (c : Int) + (x : Int) + (y : Int) = ((c + x + y : Nat) : Int) from by omega, E1.out, E3.out, E2.out]
      · refine Ev.step (fun k => ?_) (go x 0 (by omega) (by omega) (by rw [if_pos h1, hx]; rfl) (by rw [if_neg h2]))
        show zelligeref03_Add.j1 (k + 1) a b out (c : Int) (i : Int) true = _
        obtain ⟨e1, e2⟩ := r16 (c + x + 0) (by omega)
        have E1 := Aside0.mk e1
        have E3 := Aside0.mk e2
        clear e1 e2
        simp only [zelligeref03_Add.j1]
        rw [if_pos trivial, if_pos (by omega), if_pos (by omega), if_neg (by omega), if_pos (by omega), hx, show (c : Int) + (x : Int) = ((c + x + 0 : Nat) : Int) from by omega, E1.out, E3.out, E2.out]
    · have h2 : i < b.length := by omega
      have q := WB_rd hb i h2
      obtain ⟨y, hy⟩ := Int.eq_ofNat_of_zero_le q.1
      rw [hy] at q
      refine Ev.step (fun k => ?_) (go 0 y (by omega) (by omega) (by rw [if_neg h1]) (by rw [if_pos h2, hy]; rfl))
      show zelligeref03_Add.j1 (k + 1) a b out (c : Int) (i : Int) true = _
      obtain ⟨e1, e2⟩ := r16 (c + 0 + y) (by omega)
      have E1 := Aside0.mk e1
      have E3 := Aside0.mk e2
      clear e1 e2
      simp only [zelligeref03_Add.j1]
      rw [if_pos trivial, if_neg (by omega), if_pos (by omega), if_pos (by omega), if_pos (by omega), hy, show (c : Int) + (y : Int) = ((c + 0 + y : Nat) : Int) from by omega, E1.out, E3.out, E2.out]
theorem RAdd_f (a b : List Int) (ha : WB 65536 a) (hb : WB 65536 b) (la : a.length < 17592186044415) (lb : b.length < 17592186044415) : Ev (fun k => zelligeref03_Add.f k a b) (NB 65536 (VB 65536 a + VB 65536 b)) := by
  rcases Nat.le_total a.length b.length with h | h
  · exact RAdd_l0 a b ha hb b.length h (Nat.le_refl _) (.inr rfl) lb _ 0 [] 0 rfl (by omega) rfl (WB_nil _) (by omega) ⟨by simp [VB]⟩
  · exact RAdd_l0 a b ha hb a.length (Nat.le_refl _) h (.inl rfl) la _ 0 [] 0 rfl (by omega) rfl (WB_nil _) (by omega) ⟨by simp [VB]⟩
end Go.Proofs.YtofklpmlgfbmlaaGreat.ZRatP
/- What the printed functions of the reference for nat come to, told of numbers: difference and product. -/
namespace Go.Proofs.YtofklpmlgfbmlaaGreat.ZRatP
open Go.RowKit Go.Proofs.YtofklpmlgfbmlaaGreat.Wd Go.Proofs.YtofklpmlgfbmlaaGreat.Num Go.Proofs.YtofklpmlgfbmlaaGreat.ZRat
set_option linter.unusedVariables false
set_option linter.unusedSimpArgs false

theorem RSub_l0 (a b : List Int) (ha : WB 65536 a) (hb : WB 65536 b) (hle : VB 65536 b ≤ VB 65536 a) (hl : b.length ≤ a.length) (la : a.length < 17592186044415) : ∀ (d i : Nat) (out : List Int) (c : Nat),
    a.length - i = d → i ≤ a.length → out.length = i → WB 65536 out → c ≤ 1 → Aside0 (VB 65536 out + VB 65536 (b.take i) = VB 65536 (a.take i) + 65536 ^ i * c) →
    Ev (fun k => zelligeref03_Sub.l0 k a b out (c : Int) (i : Int)) (NB 65536 (VB 65536 a - VB 65536 b)) := by
  intro d
  induction d with
  | zero =>
    intro i out c hd hi ho hW hc he
    have hi' : i = a.length := by omega
    subst hi'
    have he := he.out
    rw [List.take_of_length_le (Nat.le_refl _), List.take_of_length_le hl] at he
    have h1 := VB_lt (by omega) hW
    rw [ho] at h1
    have hc0 : c = 0 := by
      rcases Nat.eq_zero_or_pos c with h | h
      · exact h
      · have : c = 1 := by omega
        subst this
        omega
    subst hc0
    have hv : VB 65536 out = VB 65536 a - VB 65536 b := by omega
    have h3 := RTrim_f _ hW (by omega)
    rw [hv] at h3
    refine Ev.step (f := fun k => (zelligeref03_Trim.f k out).bind fun t => some t) (fun k => ?_) (Ev.bind h3 (Ev.now _))
    show zelligeref03_Sub.l0 (k + 1) a b out ((0 : Nat) : Int) (a.length : Int) = _
    simp only [zelligeref03_Sub.l0]
    rw [if_neg (by omega)]
  | succ d ih =>
    intro i out c hd hi ho hW hc he
    have ra := WB_rd ha i (by omega)
    have TA := Aside0.mk (take_all_rd 65536 a i)
    have TB := Aside0.mk (take_all_rd 65536 b i)
    have E2 := Aside0.mk (wsucc i (by omega))
    obtain ⟨x, hx⟩ := Int.eq_ofNat_of_zero_le ra.1
    rw [hx] at ra
    have hia : i < a.length := by omega
    -- a step with the digit z
    have go : ∀ y z c' : Nat, z < 65536 → c' ≤ 1 → (if i < b.length then (rd b (i : Int)).toNat else 0) = y → z + y + c = x + 65536 * c' →
        Ev (fun k => zelligeref03_Sub.l0 k a b (out ++ [(z : Int)]) (c' : Int) ((i + 1 : Nat) : Int)) (NB 65536 (VB 65536 a - VB 65536 b)) := by
      intro y z c' hz hc' ey hs
      refine ih (i + 1) _ _ (by omega) (by omega) (by simp [ho]) (WB_append.2 ⟨hW, WB_cons.2 ⟨by omega, WB_nil _⟩⟩) hc' ⟨?_⟩
      have ta := TA.out
      have tb := TB.out
      rw [if_pos hia, hx, Int.toNat_natCast] at ta
      rw [ey] at tb
      rw [VB_snoc, ho, Int.toNat_natCast, ta, tb]
      have h5 : 65536 ^ i * (z + y + c) = 65536 ^ i * (x + 65536 * c') := by rw [hs]
      rw [Nat.mul_add, Nat.mul_add, Nat.mul_add] at h5
      have h6 : 65536 ^ (i + 1) * c' = 65536 ^ i * (65536 * c') := by rw [Nat.pow_succ, Nat.mul_assoc]
      rw [h6]
      have := he.out
      omega
    have E4 : Aside0 (wrap64 ((x : Int) - (c : Int)) = (x : Int) - (c : Int)) := ⟨w64in _ (by omega) (by omega)⟩
    by_cases h2 : i < b.length
    · have q := WB_rd hb i h2
      obtain ⟨y, hy⟩ := Int.eq_ofNat_of_zero_le q.1
      rw [hy] at q
      have ey : (if i < b.length then (rd b (i : Int)).toNat else 0) = y := by rw [if_pos h2, hy]; rfl
      have E5 : Aside0 (wrap64 ((x : Int) - (c : Int) - (y : Int)) = (x : Int) - (c : Int) - (y : Int)) := ⟨w64in _ (by omega) (by omega)⟩
      by_cases hn : x < y + c
      · have E6 : Aside0 (wrap64 ((x : Int) - (c : Int) - (y : Int) + 65536) = ((x + 65536 - c - y : Nat) : Int)) := ⟨by rw [w64in _ (by omega) (by omega)]; omega⟩
        refine Ev.step (fun k => ?_) (go y (x + 65536 - c - y) 1 (by omega) (by omega) ey (by omega))
        show zelligeref03_Sub.l0 (k + 1) a b out (c : Int) (i : Int) = _
        simp only [zelligeref03_Sub.l0]
        rw [if_pos (by omega), if_pos (by omega), if_pos (by omega), hx, hy, E4.out, E5.out, if_pos (by omega), if_pos (by omega), E6.out, E2.out]
        rfl
      · refine Ev.step (fun k => ?_) (go y (x - c - y) 0 (by omega) (by omega) ey (by omega))
        show zelligeref03_Sub.l0 (k + 1) a b out (c : Int) (i : Int) = _
        simp only [zelligeref03_Sub.l0]
        rw [if_pos (by omega), if_pos (by omega), if_pos (by omega), hx, hy, E4.out, E5.out, if_neg (by omega), if_pos (by omega), show (x : Int) - (c : Int) - (y : Int) = ((x - c - y : Nat) : Int) from by omega, E2.out]
        rfl
    · have ey : (if i < b.length then (rd b (i : Int)).toNat else 0) = 0 := by rw [if_neg h2]
      by_cases hn : x < c
      · have E6 : Aside0 (wrap64 ((x : Int) - (c : Int) + 65536) = ((x + 65536 - c : Nat) : Int)) := ⟨by rw [w64in _ (by omega) (by omega)]; omega⟩
        refine Ev.step (fun k => ?_) (go 0 (x + 65536 - c) 1 (by omega) (by omega) ey (by omega))
        show zelligeref03_Sub.l0 (k + 1) a b out (c : Int) (i : Int) = _
        simp only [zelligeref03_Sub.l0]
        rw [if_pos (by omega), if_pos (by omega), if_neg (by omega), hx, E4.out, if_pos (by omega), if_pos (by omega), E6.out, E2.out]
        rfl
      · refine Ev.step (fun k => ?_) (go 0 (x - c) 0 (by omega) (by omega) ey (by omega))
        show zelligeref03_Sub.l0 (k + 1) a b out (c : Int) (i : Int) = _
        simp only [zelligeref03_Sub.l0]
        rw [if_pos (by omega), if_pos (by omega), if_neg (by omega), hx, E4.out, if_neg (by omega), if_pos (by omega), show (x : Int) - (c : Int) = ((x - c : Nat) : Int) from by omega, E2.out]
        rfl
theorem RSub_f (m n : Nat) (h : n ≤ m) (hl : (NB 65536 m).length < 17592186044415) : Ev (fun k => zelligeref03_Sub.f k (NB 65536 m) (NB 65536 n)) (NB 65536 (m - n)) := by
  have := RSub_l0 (NB 65536 m) (NB 65536 n) (WB_NB _ _) (WB_NB _ _) (by rw [VB_NB (by omega), VB_NB (by omega)]; exact h) (NB_length_mono (by omega) h) hl _ 0 [] 0 rfl (by omega) rfl (WB_nil _) (by omega) ⟨by simp [VB]⟩
  rw [VB_NB (by omega), VB_NB (by omega)] at this
  exact this
theorem Rmul_bound (x y : Nat) (hx : x < 65536) (hy : y < 65536) : x * y ≤ 4294836225 := Nat.mul_le_mul (show x ≤ 65535 by omega) (show y ≤ 65535 by omega)
theorem RMul_l1 (a b : List Int) (hb : WB 65536 b) (i x : Nat) (hia : i < a.length) (hxe : rd a (i : Int) = (x : Int)) (hx : x < 65536) (n : Nat) (hn : n < 17592186044415) (hi : i + b.length < n) (S : Nat) (R : List Int) :
    (∀ out', out'.length = n → WB 65536 out' → (∀ m, i + 1 + b.length ≤ m → rd out' (m : Int) = 0) → Aside0 (VB 65536 out' = S + 65536 ^ i * (x * VB 65536 b)) →
      Ev (fun k => zelligeref03_Mul.l0 k a b out' (wrap64 ((i : Int) + 1))) R) →
    ∀ (d j : Nat) (out : List Int) (c : Nat), b.length - j = d → j ≤ b.length → out.length = n → WB 65536 out → c < 65536 → (∀ m, i + b.length ≤ m → rd out (m : Int) = 0) →
      Aside0 (VB 65536 out + 65536 ^ (i + j) * c = S + 65536 ^ i * (x * VB 65536 (b.take j))) →
    Ev (fun k => zelligeref03_Mul.l1 k a b out (i : Int) (c : Int) (j : Int)) R := by
  intro hcont d
  induction d with
  | zero =>
    intro j out c hd hj ho hW hc hz he
    have hj' : j = b.length := by omega
    subst hj'
    have E1 := Aside0.mk (wadd i b.length (by omega))
    refine Ev.step (f := fun k => zelligeref03_Mul.l0 k a b (out.set (i + b.length) (c : Int)) (wrap64 ((i : Int) + 1))) (fun k => ?_) ?_
    · show zelligeref03_Mul.l1 (k + 1) a b out (i : Int) (c : Int) (b.length : Int) = _
      simp only [zelligeref03_Mul.l1]
      rw [if_neg (by omega), E1.out, if_pos (by omega), if_pos (by omega), Int.toNat_natCast]
    · refine hcont _ (by rw [List.length_set]; exact ho) (WB_set hW _ _ (by omega) (by omega)) (fun m hm => ?_) ⟨?_⟩
      · rw [rd_set _ _ _ _ (by omega), if_neg (by omega)]
        exact hz m (by omega)
      · have h1 := VB_set 65536 out (i + b.length) (c : Int) (by omega)
        have h2 := he.out
        rw [hz (i + b.length) (Nat.le_refl _)] at h1
        rw [List.take_of_length_le (Nat.le_refl _)] at h2
        exact set_zero_step _ _ _ _ _ _ h1 h2
  | succ d ih =>
    intro j out c hd hj ho hW hc hz he
    have rb := WB_rd hb j (by omega)
    have ro := WB_rd hW (i + j) (by omega)
    obtain ⟨y, hy⟩ := Int.eq_ofNat_of_zero_le rb.1
    obtain ⟨z, hzz⟩ := Int.eq_ofNat_of_zero_le ro.1
    rw [hy] at rb
    rw [hzz] at ro
    have hp := Rmul_bound x y hx (by omega)
    have E1 := Aside0.mk (wadd i j (by omega))
    have E2 := Aside0.mk (wsucc j (by omega))
    have ES : Aside0 (wrap64 ((c : Int) + (z : Int)) + wrap64 ((x : Int) * (y : Int)) = ((c + (z + x * y) : Nat) : Int)) := ⟨by
      rw [← Int.natCast_mul]
      generalize x * y = p at *
      rw [w64in (p : Int) (by omega) (by omega), w64in ((c : Int) + (z : Int)) (by omega) (by omega)]
      omega⟩
    have hsm : c + (z + x * y) < 4611686018427387904 := by
      generalize x * y = p at *
      omega
    obtain ⟨r1, r2⟩ := r16 (c + (z + x * y)) hsm
    have R1 := Aside0.mk r1
    have R2 := Aside0.mk r2
    clear r1 r2 hsm
    refine Ev.step (f := fun k => zelligeref03_Mul.l1 k a b (out.set (i + j) (((c + (z + x * y)) % 65536 : Nat) : Int)) (i : Int) (((c + (z + x * y)) / 65536 : Nat) : Int) ((j + 1 : Nat) : Int)) (fun k => ?_) ?_
    · show zelligeref03_Mul.l1 (k + 1) a b out (i : Int) (c : Int) (j : Int) = _
      simp only [zelligeref03_Mul.l1]
      rw [if_pos (by omega), E1.out, if_pos (by omega), if_pos (by omega), if_pos (by omega), if_pos (by omega), if_pos (by omega), hy, hxe, hzz, ES.out, R1.out, R2.out, E2.out, Int.toNat_natCast]
    · have hq : (c + (z + x * y)) / 65536 < 65536 := by
        generalize x * y = p at *
        omega
      refine ih (j + 1) _ _ (by omega) (by omega) (by rw [List.length_set]; exact ho) (WB_set hW _ _ (by omega) (by omega)) hq (fun m hm => ?_) ⟨?_⟩
      · rw [rd_set _ _ _ _ (by omega), if_neg (by omega)]
        exact hz m hm
      · have h1 := VB_set 65536 out (i + j) (((c + (z + x * y)) % 65536 : Nat) : Int) (by omega)
        have h2 := he.out
        have h3 := VB_take_succ 65536 b j (by omega)
        rw [hzz] at h1
        rw [hy] at h3
        simp only [Int.toNat_natCast] at h1 h3
        exact mul_step _ i j c z x y _ _ _ _ S h1 h2 h3
theorem RMul_l0 (a b : List Int) (ha : WB 65536 a) (hb : WB 65536 b) (n : Nat) (hn : n < 17592186044415) (hl : n = a.length + b.length) : ∀ (d i : Nat) (out : List Int),
    a.length - i = d → i ≤ a.length → out.length = n → WB 65536 out → (∀ m, i + b.length ≤ m → rd out (m : Int) = 0) → Aside0 (VB 65536 out = VB 65536 (a.take i) * VB 65536 b) →
    Ev (fun k => zelligeref03_Mul.l0 k a b out (i : Int)) (NB 65536 (VB 65536 a * VB 65536 b)) := by
  intro d
  induction d with
  | zero =>
    intro i out hd hi ho hW hz he
    have hi' : i = a.length := by omega
    subst hi'
    have h3 := RTrim_f _ hW (by omega)
    rw [he.out, List.take_of_length_le (Nat.le_refl _)] at h3
    refine Ev.step (f := fun k => (zelligeref03_Trim.f k out).bind fun t => some t) (fun k => ?_) (Ev.bind (f := fun _ t => some t) h3 (Ev.now _))
    show zelligeref03_Mul.l0 (k + 1) a b out (a.length : Int) = _
    simp only [zelligeref03_Mul.l0]
    rw [if_neg (by omega)]
  | succ d ih =>
    intro i out hd hi ho hW hz he
    have ra := WB_rd ha i (by omega)
    obtain ⟨x, hx⟩ := Int.eq_ofNat_of_zero_le ra.1
    have E2 := Aside0.mk (wsucc i (by omega))
    have H3 := Aside0.mk (VB_take_succ 65536 a i (by omega))
    rw [hx] at ra H3
    refine Ev.step (f := fun k => zelligeref03_Mul.l1 k a b out (i : Int) ((0 : Nat) : Int) ((0 : Nat) : Int)) (fun k => ?_) ?_
    · show zelligeref03_Mul.l0 (k + 1) a b out (i : Int) = _
      simp only [zelligeref03_Mul.l0]
      rw [if_pos (by omega)]
      rfl
    · refine RMul_l1 a b hb i x (by omega) hx (by omega) n hn (by omega) (VB 65536 (a.take i) * VB 65536 b) _ (fun out' ho' hW' hz' he' => ?_) _ 0 out 0 rfl (by omega) ho hW (by omega) hz ⟨?_⟩
      · rw [E2.out]
        refine ih (i + 1) out' (by omega) (by omega) ho' hW' (fun m hm => hz' m (by omega)) ⟨?_⟩
        rw [he'.out, H3.out, Nat.add_mul, Int.toNat_natCast, Nat.mul_assoc]
      · rw [he.out]
        simp [VB]
theorem RMul_f (a b : List Int) (ha : WB 65536 a) (hb : WB 65536 b) (hl : a.length + b.length < 17592186044415) :
    Ev (fun k => zelligeref03_Mul.f k a b) (NB 65536 (VB 65536 a * VB 65536 b)) := by
  unfold zelligeref03_Mul.f
  have E := Aside0.mk (wadd a.length b.length (by omega))
  refine Ev.congr (fun k => ?_) (RMul_l0 a b ha hb _ hl rfl _ 0 (List.replicate (a.length + b.length) 0) rfl (by omega) (by simp) (WB_rep _ _ (by omega)) (fun m _ => rd_rep _ m) ⟨by rw [VB_rep]; simp [VB]⟩)
  rw [E.out, if_pos (by omega), Int.toNat_natCast, if_pos (by omega)]
  rfl
end Go.Proofs.YtofklpmlgfbmlaaGreat.ZRatP
/- What the printed functions of the reference for nat come to, told of numbers: the quotient and the rest, bit by bit. -/
namespace Go.Proofs.YtofklpmlgfbmlaaGreat.ZRatP
open Go.RowKit Go.Proofs.YtofklpmlgfbmlaaGreat.Wd Go.Proofs.YtofklpmlgfbmlaaGreat.Num Go.Proofs.YtofklpmlgfbmlaaGreat.ZRat
set_option linter.unusedVariables false
set_option linter.unusedSimpArgs false

theorem len_dbl (r j : Nat) (h : (NB 65536 r).length ≤ j) : (NB 65536 (2 * r + 1)).length ≤ j + 1 := by
  refine NB_length_le (by omega) _ _ ?_
  have h1 := NB_lt_length (b := 65536) (by omega) r
  have h2 := Nat.pow_le_pow_right (show 0 < 65536 by omega) h
  rw [Nat.pow_succ]
  omega
theorem len_le (m n : Nat) (h : m ≤ n) : (NB 65536 m).length ≤ (NB 65536 n).length := NB_length_mono (by omega) h
/-- One bit of the quotient: the number M, of which M / 2 is divided. -/
theorem bit_ge (M n : Nat) (hn : 0 < n) (h : n ≤ 2 * (M / 2 % n) + M % 2) : M / n = 2 * (M / 2 / n) + 1 ∧ M % n = 2 * (M / 2 % n) + M % 2 - n := by
  have h1 := Nat.mod_add_div (M / 2) n
  have h2 := Nat.mod_lt (M / 2) hn
  have h3 := Nat.mod_add_div M 2
  refine (Nat.div_mod_unique hn).2 ⟨?_, by omega⟩
  rw [Nat.mul_add, Nat.mul_one, ← Nat.mul_assoc, Nat.mul_comm n 2, Nat.mul_assoc]
  generalize n * (M / 2 / n) = p at *
  omega
theorem bit_lt (M n : Nat) (hn : 0 < n) (h : 2 * (M / 2 % n) + M % 2 < n) : M / n = 2 * (M / 2 / n) ∧ M % n = 2 * (M / 2 % n) + M % 2 := by
  have h1 := Nat.mod_add_div (M / 2) n
  have h3 := Nat.mod_add_div M 2
  refine (Nat.div_mod_unique hn).2 ⟨?_, by omega⟩
  rw [← Nat.mul_assoc, Nat.mul_comm n 2, Nat.mul_assoc]
  generalize n * (M / 2 / n) = p at *
  omega
theorem pow16 (j t : Nat) : 2 ^ (16 * j + t) = 65536 ^ j * 2 ^ t := by rw [Nat.pow_add, Nat.pow_mul]
/-- A digit of a number, from its value. -/
theorem rd_val (l : List Int) (hW : WB 65536 l) (j : Nat) (hj : j < l.length) : rd l (j : Int) = ((VB 65536 l / 65536 ^ j % 65536 : Nat) : Int) := by
  have r := WB_rd hW j hj
  obtain ⟨x, hx⟩ := Int.eq_ofNat_of_zero_le r.1
  rw [hx] at r ⊢
  have h1 := VB_split 65536 l j (by omega)
  have h2 := VB_drop_rd 65536 l j hj
  have h3 := VB_lt (b := 65536) (by omega) (WB_take hW j)
  rw [List.length_take, Nat.min_eq_left (by omega)] at h3
  rw [hx, Int.toNat_natCast] at h2
  rw [h1, h2, Nat.add_mul_div_left _ _ (Nat.pow_pos (by omega)), Nat.div_eq_of_lt h3, Nat.zero_add, Nat.add_mul_mod_self_left, Nat.mod_eq_of_lt (by omega)]
theorem bit_rd (l : List Int) (hW : WB 65536 l) (j t : Nat) (hj : j < l.length) (ht : t < 16) : rd l (j : Int) / 2 ^ t % 2 = ((VB 65536 l / 2 ^ (16 * j + t) % 2 : Nat) : Int) := by
  rw [rd_val l hW j hj, pow16, ← Nat.div_div_eq_div_mul]
  generalize VB 65536 l / 65536 ^ j = x
  have e : (65536 : Nat) = 2 ^ t * (2 * 2 ^ (15 - t)) := by
    rw [← Nat.pow_succ', ← Nat.pow_add, show t + (15 - t + 1) = 16 from by omega]
  have h1 : x % 65536 / 2 ^ t = x / 2 ^ t % (2 * 2 ^ (15 - t)) := by
    conv => lhs; rw [e]
    exact Nat.mod_mul_right_div_self x (2 ^ t) _
  have h2 : ((x % 65536 : Nat) : Int) / 2 ^ t = ((x % 65536 / 2 ^ t : Nat) : Int) := by
    rw [Int.natCast_ediv, Int.natCast_pow]; rfl
  rw [h2, h1]
  have h3 : x / 2 ^ t % (2 * 2 ^ (15 - t)) % 2 = x / 2 ^ t % 2 := Nat.mod_mul_right_mod _ _ _
  omega
/-- A number that 2^(i+1) divides has room for the bit i. -/
theorem room_bit (q : List Int) (hW : WB 65536 q) (j t c : Nat) (hj : j < q.length) (ht : t < 16) (he : VB 65536 q = c * 2 ^ (16 * j + t + 1)) : rd q (j : Int) + ((2 ^ t : Nat) : Int) < 65536 ∧ 0 ≤ rd q (j : Int) := by
  rw [rd_val q hW j hj, he, show 16 * j + t + 1 = 16 * j + (t + 1) from by omega, pow16, show c * (65536 ^ j * 2 ^ (t + 1)) = 65536 ^ j * (c * 2 ^ (t + 1)) from Nat.mul_left_comm _ _ _, Nat.mul_div_cancel_left _ (Nat.pow_pos (by omega))]
  have e : (65536 : Nat) = 2 ^ (t + 1) * 2 ^ (15 - t) := by rw [← Nat.pow_add, show t + 1 + (15 - t) = 16 from by omega]
  have h1 : c * 2 ^ (t + 1) % 65536 = 2 ^ (t + 1) * (c % 2 ^ (15 - t)) := by
    rw [Nat.mul_comm c]
    conv => lhs; rw [e]
    exact Nat.mul_mod_mul_left _ _ _
  have h2 : c % 2 ^ (15 - t) + 1 ≤ 2 ^ (15 - t) := Nat.mod_lt _ (Nat.pow_pos (by omega))
  have h3 := Nat.mul_le_mul_left (2 ^ (t + 1)) h2
  rw [← e, Nat.mul_add, Nat.mul_one] at h3
  rw [h1]
  have h4 : 2 ^ t < 2 ^ (t + 1) := Nat.pow_lt_pow_right (by omega) (by omega)
  refine ⟨?_, by omega⟩
  omega
theorem RDivMod_l0 (l : List Int) (n : Nat) (hW : WB 65536 l) (hn : 0 < n) (hl : l.length < 1000000000) (hnl : (NB 65536 n).length < 1000000000) : ∀ (i : Nat) (q : List Int), i ≤ 16 * l.length → q.length = l.length → WB 65536 q →
    Aside0 (VB 65536 q = VB 65536 l / 2 ^ i / n * 2 ^ i) →
    Ev (fun k => zelligeref03_DivMod.l0 k l (NB 65536 n) q (NB 65536 (VB 65536 l / 2 ^ i % n)) ((i : Int) - 1)) (NB 65536 (VB 65536 l / n), NB 65536 (VB 65536 l % n)) := by
  intro i
  induction i with
  | zero =>
    intro q hi hq hWq he
    have h3 := RTrim_f _ hWq (by omega)
    rw [he.out, Nat.pow_zero, Nat.div_one, Nat.mul_one] at h3
    rw [Nat.pow_zero, Nat.div_one]
    refine Ev.step (fun k => ?_) (Ev.bind (f := fun _ t => some (t, NB 65536 (VB 65536 l % n))) h3 (Ev.now _))
    show zelligeref03_DivMod.l0 (k + 1) l (NB 65536 n) q _ _ = _
    simp only [zelligeref03_DivMod.l0]
    rw [if_neg (by omega)]
  | succ i ih =>
    intro q hi hq hWq he
    obtain ⟨j, t, hij, ht⟩ : ∃ j t, i = 16 * j + t ∧ t < 16 := ⟨i / 16, i % 16, by omega, by omega⟩
    have hj : j < l.length := by omega
    have ei : ((i + 1 : Nat) : Int) - 1 = (i : Int) := by omega
    have ed : Int.tdiv (i : Int) 16 = (j : Int) := by rw [Int.tdiv_eq_ediv_of_nonneg (by omega)]; omega
    have em : Int.tmod (i : Int) 16 = (t : Int) := by rw [Int.tmod_eq_emod_of_nonneg (by omega)]; omega
    have ed' := Aside0.mk (w64in (j : Int) (by omega) (by omega))
    have em' := Aside0.mk (u64in (t : Int) (by omega) (by omega))
    have es := Aside0.mk (wpred i (by omega))
    have hb := bit_rd l hW j t hj ht
    rw [← hij] at hb
    have hsh : shr .i64 (rd l (j : Int)) (t : Int) = rd l (j : Int) / 2 ^ t := by
      unfold shr
      rw [Int.toNat_natCast, Nat.min_eq_left (by show t ≤ 64; omega)]
    have hpos := WB_rd hW j hj
    have htm : Int.tmod (rd l (j : Int) / 2 ^ t) 2 = ((VB 65536 l / 2 ^ i % 2 : Nat) : Int) := by
      rw [Int.tmod_eq_emod_of_nonneg (Int.ediv_nonneg hpos.1 (Int.pow_nonneg (by omega))), hb]
    have hM : VB 65536 l / 2 ^ (i + 1) = VB 65536 l / 2 ^ i / 2 := by rw [Nat.pow_succ, Nat.div_div_eq_div_mul]
    have hI := ih
    rw [hM] at he ⊢
    generalize hMM : VB 65536 l / 2 ^ i = M at *
    have hr := Nat.mod_lt (M / 2) hn
    have lr := len_le _ _ (Nat.le_of_lt hr)
    have ld := len_dbl (M / 2 % n) 1000000000 (by omega)
    -- the second half of a round
    have go : Ev (fun k => zelligeref03_DivMod.j1 k l (NB 65536 n) q (NB 65536 (2 * (M / 2 % n) + M % 2)) (i : Int)) (NB 65536 (VB 65536 l / n), NB 65536 (VB 65536 l % n)) := by
      have hlen := len_le (2 * (M / 2 % n) + M % 2) (2 * (M / 2 % n) + 1) (by omega)
      have hc := RCmp_f (2 * (M / 2 % n) + M % 2) n (by omega)
      rcases Nat.lt_or_ge (2 * (M / 2 % n) + M % 2) n with h | h
      · obtain ⟨b1, b2⟩ := bit_lt M n hn h
        have hce : cmpN (2 * (M / 2 % n) + M % 2) n = -1 := by unfold cmpN; rw [if_pos h]
        rw [hce] at hc
        refine Ev.step (fun k => ?c1) (Ev.bind (f := ?F1) hc ?d1)
        case c1 =>
          show zelligeref03_DivMod.j1 (k + 1) l (NB 65536 n) q _ _ = _
          simp only [zelligeref03_DivMod.j1]
          exact rfl
        case d1 =>
          refine Ev.congr (fun k => if_neg (by omega)) ?_
          rw [es.out, ← b2]
          refine hI q (by omega) hq hWq ⟨?_⟩
          rw [he.out, b1, Nat.pow_succ, Nat.mul_comm 2, Nat.mul_assoc, Nat.mul_comm 2]
      · obtain ⟨b1, b2⟩ := bit_ge M n hn h
        have hce : cmpN (2 * (M / 2 % n) + M % 2) n ≥ 0 := by unfold cmpN; rw [if_neg (by omega)]; split <;> omega
        generalize cmpN (2 * (M / 2 % n) + M % 2) n = c at *
        have hs := RSub_f (2 * (M / 2 % n) + M % 2) n h (by omega)
        rw [← b2] at hs
        obtain ⟨rm, r0⟩ := room_bit q hWq j t (M / 2 / n) (by omega) ht (by rw [he.out, hij])
        have hsl : shl .i64 1 (t : Int) = ((2 ^ t : Nat) : Int) := by
          unfold shl
          rw [Int.toNat_natCast, Nat.min_eq_left (by show t ≤ 64; omega), Int.one_mul, i64_w]
          have h4 : (2 : Int) ^ t = ((2 ^ t : Nat) : Int) := by rw [Int.natCast_pow]; rfl
          have h5 : 2 ^ t ≤ 2 ^ 15 := Nat.pow_le_pow_right (by omega) (by omega)
          rw [h4]
          generalize 2 ^ t = P at h5 ⊢
          exact w64in _ (by omega) (by omega)
        obtain ⟨P, hP⟩ : ∃ P : Nat, P = 2 ^ t := ⟨_, rfl⟩
        rw [← hP] at rm hsl
        have E5 := Aside0.mk (w64in (rd q (j : Int) + (P : Int)) (by omega) (by omega))
        have hq' : j < q.length := by omega
        refine Ev.step (fun k => ?c2) (Ev.bind (f := ?F2) hc ?d2)
        case c2 =>
          show zelligeref03_DivMod.j1 (k + 1) l (NB 65536 n) q _ _ = _
          simp only [zelligeref03_DivMod.j1]
          exact rfl
        case d2 =>
          refine Ev.congr (fun k => if_pos hce) ?_
          refine Ev.bind hs ?_
          have hb2 := hI (q.set j (rd q (j : Int) + (P : Int))) (by omega) (by rw [List.length_set]; exact hq) (WB_set hWq _ _ (by omega) (by omega)) ⟨by
            have h7 := VB_set 65536 q j (rd q (j : Int) + (P : Int)) hq'
            obtain ⟨x, hx⟩ := Int.eq_ofNat_of_zero_le r0
            rw [hx] at h7
            rw [hx, b1]
            have e3 : ((x : Int) + (P : Int)).toNat = x + P := by omega
            have h8 : 65536 ^ j * P = 2 ^ i := by rw [hP, ← pow16, ← hij]
            rw [e3, Int.toNat_natCast, Nat.mul_add, h8, he.out, Nat.pow_succ] at h7
            rw [Nat.add_mul, Nat.one_mul, Nat.mul_comm 2, Nat.mul_assoc, Nat.mul_comm 2]
            omega⟩
          refine Ev.congr (fun k => ?_) hb2
          rw [ed, em, ed'.out, em'.out, if_pos (by omega), if_pos (by omega), if_pos (by omega), hsl, E5.out, es.out, Int.toNat_natCast]
    have ha := RAdd_f (NB 65536 (M / 2 % n)) (NB 65536 (M / 2 % n)) (WB_NB _ _) (WB_NB _ _) (by omega) (by omega)
    rw [VB_NB (by omega), show M / 2 % n + M / 2 % n = 2 * (M / 2 % n) from by omega] at ha
    refine Ev.step (fun k => ?_) (Ev.bind (f := fun k t_ => if M % 2 = 1 then (zelligeref03_Add.f k t_ [1]).bind fun t_ => zelligeref03_DivMod.j1 k l (NB 65536 n) q t_ (i : Int) else zelligeref03_DivMod.j1 k l (NB 65536 n) q t_ (i : Int)) ha ?_)
    · show zelligeref03_DivMod.l0 (k + 1) l (NB 65536 n) q _ _ = _
      simp only [zelligeref03_DivMod.l0]
      rw [ei, if_pos (by omega), ed, em, ed'.out, em'.out, hsh, htm]
      congr 1
      funext t_
      rw [if_pos (by omega), if_pos (by omega), if_pos (by omega)]
      by_cases hb1 : M % 2 = 1
      · rw [if_pos (by omega), if_pos hb1]
      · rw [if_neg (by omega), if_neg hb1]
    · have ld2 := len_le (2 * (M / 2 % n)) (2 * (M / 2 % n) + 1) (by omega)
      by_cases hb1 : M % 2 = 1
      · refine Ev.congr (fun k => if_pos hb1) ?_
        have ha2 := RAdd_f (NB 65536 (2 * (M / 2 % n))) [1] (WB_NB _ _) (WB_cons.2 ⟨by omega, WB_nil _⟩) (by omega) (by simp)
        rw [VB_NB (by omega), show VB 65536 [1] = 1 from rfl] at ha2
        rw [hb1] at go
        exact Ev.bind ha2 go
      · refine Ev.congr (fun k => if_neg hb1) ?_
        have : M % 2 = 0 := by omega
        rw [this, Nat.add_zero] at go
        exact go
theorem RDivMod_f (m n : Nat) (hn : 0 < n) (hl : (NB 65536 m).length < 1000000000) (hnl : (NB 65536 n).length < 1000000000) : Ev (fun k => zelligeref03_DivMod.f k (NB 65536 m) (NB 65536 n)) (NB 65536 (m / n), NB 65536 (m % n)) := by
  have h0 := RDivMod_l0 (NB 65536 m) n (WB_NB _ _) hn hl hnl (16 * (NB 65536 m).length) (List.replicate (NB 65536 m).length 0) (Nat.le_refl _) (by simp) (WB_rep _ _ (by omega))
  have hz : VB 65536 (NB 65536 m) / 2 ^ (16 * (NB 65536 m).length) = 0 := by
    rw [VB_NB (by omega), Nat.pow_mul]
    exact Nat.div_eq_of_lt (NB_lt_length (by omega) m)
  rw [hz, Nat.zero_div, Nat.zero_mul, Nat.zero_mod, NB_zero, VB_NB (by omega)] at h0
  have h1 := h0 ⟨VB_rep _ _⟩
  unfold zelligeref03_DivMod.f
  refine Ev.congr (fun k => ?_) h1
  have E1 := Aside0.mk (w64in (16 * ((NB 65536 m).length : Int)) (by omega) (by omega))
  have E2 := Aside0.mk (w64in (16 * ((NB 65536 m).length : Int) - 1) (by omega) (by omega))
  rw [if_pos (by omega), if_pos (by omega), E1.out, E2.out, Int.toNat_natCast]
  rfl
end Go.Proofs.YtofklpmlgfbmlaaGreat.ZRatP
/- What the printed functions of the reference for nat come to, told of numbers: showing in decimal. -/
namespace Go.Proofs.YtofklpmlgfbmlaaGreat.ZRatP
open Go.RowKit Go.Proofs.YtofklpmlgfbmlaaGreat.Wd Go.Proofs.YtofklpmlgfbmlaaGreat.Num Go.Proofs.YtofklpmlgfbmlaaGreat.ZRat
set_option linter.unusedVariables false
set_option linter.unusedSimpArgs false

/-- One digit of a short division, from the highest one. -/
theorem rdiv_step (d D x : Nat) (hd : 0 < d) : (x + 65536 * D) / d = (D % d * 65536 + x) / d + 65536 * (D / d) ∧ (x + 65536 * D) % d = (D % d * 65536 + x) % d := by
  have h1 := Nat.mod_add_div D d
  have e : x + 65536 * D = (D % d * 65536 + x) + d * (65536 * (D / d)) := by
    rw [Nat.mul_left_comm]
    generalize d * (D / d) = p at *
    omega
  constructor
  · conv => lhs; rw [e]
    rw [Nat.add_mul_div_left _ _ hd]
  · conv => lhs; rw [e]
    rw [Nat.add_mul_mod_self_left]
theorem div_small (d r x : Nat) (hd : 0 < d) (hr : r < d) (hx : x < 65536) : (r * 65536 + x) / d < 65536 := by
  rw [Nat.div_lt_iff_lt_mul hd]
  have : (r + 1) * 65536 ≤ d * 65536 := Nat.mul_le_mul_right _ hr
  omega
theorem wdig (r x : Nat) (hr : r < 10) (hx : x < 65536) : wrap64 (wrap64 ((r : Int) * 65536) + (x : Int)) = ((r * 65536 + x : Nat) : Int) := by
  rw [w64in ((r : Int) * 65536) (by omega) (by omega), w64in _ (by omega) (by omega)]
  omega
theorem RShow_l1 (s : ByteArray) : ∀ (n : Nat) (A R : List Int) (D : Nat), A.length = n → WB 65536 A → WB 65536 R → VB 65536 R = D / 10 → A.length + R.length < 1000000000 →
    ∃ z : List Int, z.length = A.length + R.length ∧ WB 65536 z ∧ VB 65536 z = (VB 65536 A + 65536 ^ n * D) / 10 ∧
      ∀ res, Ev (fun k => zelligeref03_Show.l1 k z s (((VB 65536 A + 65536 ^ n * D) % 10 : Nat) : Int) (((0 : Nat) : Int) - 1)) res → Ev (fun k => zelligeref03_Show.l1 k (A ++ R) s ((D % 10 : Nat) : Int) ((n : Int) - 1)) res := by
  intro n
  induction n with
  | zero =>
    intro A R D hA hWA hWR hR hl
    obtain rfl := List.length_eq_zero_iff.1 hA
    refine ⟨R, by simp, hWR, by simp [VB, hR], fun res h => ?_⟩
    simpa [VB] using h
  | succ n ih =>
    intro A R D hA hWA hWR hR hl
    rcases List.eq_nil_or_concat A with rfl | ⟨m, x, rfl⟩
    · simp at hA
    rw [List.concat_eq_append] at *
    have hm : m.length = n := by simpa using hA
    obtain ⟨hWm, hWx⟩ := WB_append.1 hWA
    have hx := (WB_cons.1 hWx).1
    obtain ⟨x, rfl⟩ := Int.eq_ofNat_of_zero_le hx.1
    obtain ⟨d1, d2⟩ := rdiv_step 10 D x (by omega)
    have hsm := div_small 10 (D % 10) x (by omega) (by omega) (by omega)
    have hlen : (m ++ [(x : Int)]).length = n + 1 := hA
    obtain ⟨z, z1, z2, z3, z4⟩ := ih m ((((D % 10 * 65536 + x) / 10 : Nat) : Int) :: R) (x + 65536 * D) hm hWm (WB_cons.2 ⟨by omega, hWR⟩) (by rw [VB, Int.toNat_natCast, hR, d1]) (by simp at hl ⊢; omega)
    have hv : VB 65536 (m ++ [(x : Int)]) + 65536 ^ (n + 1) * D = VB 65536 m + 65536 ^ n * (x + 65536 * D) := by
      rw [VB_snoc, hm, Int.toNat_natCast, Nat.pow_succ, Nat.mul_add, Nat.mul_assoc, Nat.add_assoc]
    refine ⟨z, by rw [z1]; simp; omega, z2, by rw [z3, hv], fun res h => ?_⟩
    rw [hv] at h
    have h5 := z4 res h
    refine Ev.step (fun k => ?_) h5
    show zelligeref03_Show.l1 (k + 1) _ _ _ _ = _
    have e1 : ((n + 1 : Nat) : Int) - 1 = (n : Int) := by omega
    have hr : rd (m ++ [(x : Int)] ++ R) (n : Int) = (x : Int) := by rw [List.append_assoc, ← hm]; exact rd_mid m _ R
    have hst : ∀ v : Int, (m ++ [(x : Int)] ++ R).set n v = m ++ v :: R := by
      intro v
      rw [List.append_assoc, ← hm]
      exact set_mid m _ v R
    have hL : (m ++ [(x : Int)] ++ R).length = n + 1 + R.length := by rw [List.length_append, hlen]
    have E1 := Aside0.mk (wpred n (by omega))
    have E3 := Aside0.mk (wdig (D % 10) x (by omega) (by omega))
    have e5 : Int.tdiv ((D % 10 * 65536 + x : Nat) : Int) 10 = (((D % 10 * 65536 + x) / 10 : Nat) : Int) := tdivN _ 10
    have e6 : Int.tmod ((D % 10 * 65536 + x : Nat) : Int) 10 = (((D % 10 * 65536 + x) % 10 : Nat) : Int) := tmodN _ 10
    have E7 := Aside0.mk (w64in (((D % 10 * 65536 + x) / 10 : Nat) : Int) (by omega) (by omega))
    simp only [zelligeref03_Show.l1]
    rw [e1, if_pos (by omega), if_pos (by omega), if_pos (by omega), hr, E3.out, e5, e6, E7.out, E1.out, Int.toNat_natCast, hst, d2]
theorem digit_str (d : Nat) (h : d < 10) : bytesOf ((⟨#[48, 49, 50, 51, 52, 53, 54, 55, 56, 57]⟩ : ByteArray).extract d (d + 1)) = [48 + (d : Int)] := by
  have : ∀ d : Fin 10, bytesOf ((⟨#[48, 49, 50, 51, 52, 53, 54, 55, 56, 57]⟩ : ByteArray).extract d.val (d.val + 1)) = [48 + (d.val : Int)] := by decide +kernel
  exact this ⟨d, h⟩
/-- One digit in front. -/
theorem RShow_round (m : Nat) (s : ByteArray) (hl : (NB 65536 m).length < 1000000000) (hs : (bytesOf s).length < 1000000000000) (res : ByteArray)
    (h : ∀ t : ByteArray, bytesOf t = (48 + ((m % 10 : Nat) : Int)) :: bytesOf s → Ev (fun k => zelligeref03_Show.l0 k (NB 65536 (m / 10)) t) res) : Ev (fun k => zelligeref03_Show.j1 k (NB 65536 m) s true) res := by
  obtain ⟨z, z1, z2, z3, z4⟩ := RShow_l1 s _ (NB 65536 m) [] 0 rfl (WB_NB _ _) (WB_nil _) rfl (by simpa using hl)
  rw [Nat.mul_zero, Nat.add_zero, VB_NB (by omega)] at z3 z4
  rw [List.length_nil, Nat.add_zero] at z1
  have t1 := RTrim_f z z2 (by omega)
  rw [z3] at t1
  have hd := digit_str (m % 10) (by omega)
  have hsz := bytesOf_length s
  have hh := h (((⟨#[48, 49, 50, 51, 52, 53, 54, 55, 56, 57]⟩ : ByteArray).extract (m % 10) (m % 10 + 1)) ++ s) (by rw [bytesOf_append, hd]; rfl)
  have hz2 := bytesOf_length ((⟨#[48, 49, 50, 51, 52, 53, 54, 55, 56, 57]⟩ : ByteArray).extract (m % 10) (m % 10 + 1))
  rw [hd, List.length_singleton] at hz2
  have E1 := Aside0.mk (wpred (NB 65536 m).length (by omega))
  have E2 := Aside0.mk (wsucc (m % 10) (by omega))
  have h5 := z4 res (by
    refine Ev.step (fun k => ?_) (Ev.bind (f := fun k t => zelligeref03_Show.l0 k t (((⟨#[48, 49, 50, 51, 52, 53, 54, 55, 56, 57]⟩ : ByteArray).extract (m % 10) (m % 10 + 1)) ++ s)) t1 hh)
    show zelligeref03_Show.l1 (k + 1) _ _ _ _ = _
    simp only [zelligeref03_Show.l1]
    rw [if_neg (by omega)]
    congr 1
    funext t
    rw [if_pos (by omega), E2.out, if_pos (by omega), if_pos (by omega), Int.toNat_natCast, Int.toNat_natCast, if_pos (by omega)])
  refine Ev.step (fun k => ?_) h5
  show zelligeref03_Show.j1 (k + 1) _ _ _ = _
  simp only [zelligeref03_Show.j1]
  rw [if_pos trivial, E1.out, List.append_nil]
  rfl
theorem toList_nil (s : ByteArray) (h : bytesOf s = []) : (s.toList == ([] : List UInt8)) = true := by
  rw [toList_data]
  unfold bytesOf at h
  simp at h
  simp [h]
theorem toList_ne (s : ByteArray) (h : bytesOf s ≠ []) : (s.toList == ([] : List UInt8)) = false := by
  rw [toList_data]
  unfold bytesOf at h
  cases e : s.data.toList with
  | nil => rw [e] at h; exact absurd rfl h
  | cons x xs => rfl
theorem RShow_l0 : ∀ (j m : Nat) (s : ByteArray), m < 10 ^ j → (NB 65536 m).length < 1000000000 → (bytesOf s).length + j < 1000000000000 → (m ≠ 0 ∨ bytesOf s ≠ []) →
    Ev (fun k => zelligeref03_Show.l0 k (NB 65536 m) s) (strOfNums ((Ch (NB 10 m)).reverse ++ bytesOf s)) := by
  have fin : ∀ s : ByteArray, bytesOf s ≠ [] → Ev (fun k => zelligeref03_Show.l0 k (NB 65536 0) s) (strOfNums ((Ch (NB 10 0)).reverse ++ bytesOf s)) := by
    intro s hs
    rw [NB_zero, NB_zero, show (Ch []).reverse ++ bytesOf s = bytesOf s from rfl, str_bytesOf]
    refine Ev.step (f := fun k => zelligeref03_Show.j1 k [] s false) (fun k => ?_) (Ev.step (f := fun _ => some s) (fun k => ?_) (Ev.now _))
    · show zelligeref03_Show.l0 (k + 1) _ _ = _
      simp only [zelligeref03_Show.l0]
      rw [if_neg (by simp), toList_ne s hs]
    · show zelligeref03_Show.j1 (k + 1) _ _ _ = _
      simp only [zelligeref03_Show.j1]
      rw [if_neg Bool.false_ne_true]
  intro j
  induction j with
  | zero =>
    intro m s hm hl hb h
    rw [Nat.pow_zero] at hm
    obtain rfl : m = 0 := by omega
    exact fin s (h.resolve_left (by omega))
  | succ j ih =>
    intro m s hm hl hb h
    rcases Nat.eq_zero_or_pos m with rfl | h0
    · exact fin s (h.resolve_left (by omega))
    · have hne : (NB 65536 m).length ≠ 0 := fun e => by
        have := (NB_len0 (b := 65536) (by omega) m).1 e
        omega
      have hq : m / 10 < 10 ^ j := by rw [Nat.div_lt_iff_lt_mul (by omega), ← Nat.pow_succ]; exact hm
      have hll : (NB 65536 (m / 10)).length ≤ (NB 65536 m).length := NB_length_mono (by omega) (Nat.div_le_self _ _)
      have HQ := Aside0.mk hq
      have HM := Aside0.mk hm
      clear hq hm
      refine Ev.step (fun k => ?_) (RShow_round m s hl (by omega) _ (fun t ht => ?_))
      · show zelligeref03_Show.l0 (k + 1) _ _ = _
        simp only [zelligeref03_Show.l0]
        rw [if_pos (by omega)]
      · have h1 := ih (m / 10) t HQ.out (by omega) (by rw [ht, List.length_cons]; omega) (.inr (by rw [ht]; simp))
        rw [ht] at h1
        rw [NB_pos (by omega) h0]
        have e : (Ch (((m % 10 : Nat) : Int) :: NB 10 (m / 10))).reverse ++ bytesOf s = (Ch (NB 10 (m / 10))).reverse ++ (48 + ((m % 10 : Nat) : Int)) :: bytesOf s := by simp [Ch]
        rw [e]
        exact h1
theorem pow_5 (n : Nat) : 65536 ^ n ≤ 10 ^ (5 * n) := by
  rw [Nat.pow_mul]
  exact Nat.pow_le_pow_left (by decide) n
theorem RShow_f (m : Nat) (hl : (NB 65536 m).length < 1000000000) : Ev (fun k => zelligeref03_Show.f k (NB 65536 m)) (showS m) := by
  unfold zelligeref03_Show.f
  refine Ev.congr (g := fun k => _) (f := fun k => zelligeref03_Show.l0 k (NB 65536 m) (⟨#[]⟩ : ByteArray)) (fun k => ?_) ?_
  · rw [Option.bind_some, if_pos (by simp; omega), List.nil_append]
  · unfold showS decS
    rcases Nat.eq_zero_or_pos m with rfl | h0
    · rw [if_pos rfl]
      have hr := RShow_round 0 (⟨#[]⟩ : ByteArray) (by rw [NB_zero]; simp) (by decide) (strOfNums [48]) (fun t ht => by
        have := RShow_l0 0 0 t (by simp) (by rw [NB_zero]; simp) (by rw [ht]; simp [bytesOf]) (.inr (by rw [ht]; simp))
        rw [ht] at this
        rw [NB_zero, NB_zero] at this
        rw [Nat.zero_div, NB_zero]
        exact this)
      refine Ev.step (fun k => ?_) hr
      show zelligeref03_Show.l0 (k + 1) _ _ = _
      simp only [zelligeref03_Show.l0]
      rw [NB_zero, if_neg (by simp), toList_nil _ rfl]
    · rw [if_neg (by omega)]
      have hv := Nat.lt_of_lt_of_le (NB_lt_length (b := 65536) (by omega) m) (pow_5 _)
      have h1 := RShow_l0 (5 * (NB 65536 m).length) m (⟨#[]⟩ : ByteArray) hv hl (by have : (bytesOf (⟨#[]⟩ : ByteArray)).length = 0 := rfl; clear hv; omega) (.inl (by omega))
      have e : bytesOf (⟨#[]⟩ : ByteArray) = [] := rfl
      rw [e, List.append_nil] at h1
      exact h1
end Go.Proofs.YtofklpmlgfbmlaaGreat.ZRatP
/- How many bits a number takes: plain law. -/
namespace Go.Proofs.YtofklpmlgfbmlaaGreat.ZRatP
open Go.RowKit Go.Proofs.YtofklpmlgfbmlaaGreat.Wd Go.Proofs.YtofklpmlgfbmlaaGreat.Num
set_option linter.unusedVariables false
set_option linter.unusedSimpArgs false

/-- How many bits a number takes. -/
def nbits (m : Nat) : Nat := if m = 0 then 0 else Nat.log2 m + 1
theorem nbits_of (m k : Nat) (h1 : 2 ^ k ≤ m) (h2 : m < 2 ^ (k + 1)) : nbits m = k + 1 := by
  have h0 : m ≠ 0 := by have := Nat.two_pow_pos k; omega
  unfold nbits
  rw [if_neg h0, (Nat.log2_eq_iff h0).2 ⟨h1, h2⟩]
end Go.Proofs.YtofklpmlgfbmlaaGreat.ZRatP
/- What the printed functions of the reference for nat come to, told of numbers: halves, the greatest common divisor, bits. -/
namespace Go.Proofs.YtofklpmlgfbmlaaGreat.ZRatP
open Go.RowKit Go.Proofs.YtofklpmlgfbmlaaGreat.Wd Go.Proofs.YtofklpmlgfbmlaaGreat.Num Go.Proofs.YtofklpmlgfbmlaaGreat.ZRat
set_option linter.unusedVariables false
set_option linter.unusedSimpArgs false

theorem RHalf_l0 (l : List Int) (hW : WB 65536 l) (hl : l.length < 1000000000) : ∀ (n : Nat) (P R : List Int), P.length = n → n + R.length = l.length → WB 65536 R → VB 65536 R = VB 65536 (l.drop n) / 2 →
    Ev (fun k => zelligeref03_Half.l0 k l (P ++ R) ((VB 65536 (l.drop n) % 2 : Nat) : Int) ((n : Int) - 1)) (NB 65536 (VB 65536 l / 2)) := by
  intro n
  induction n with
  | zero =>
    intro P R hP hn hWR hR
    obtain rfl := List.length_eq_zero_iff.1 hP
    rw [List.drop_zero] at hR
    have h1 := RTrim_f R hWR (by omega)
    rw [hR] at h1
    refine Ev.step (fun k => ?_) (Ev.bind (f := fun _ t => some t) h1 (Ev.now _))
    show zelligeref03_Half.l0 (k + 1) _ _ _ _ = _
    simp only [zelligeref03_Half.l0]
    rw [if_neg (by omega)]
    rfl
  | succ n ih =>
    intro P R hP hn hWR hR
    rcases List.eq_nil_or_concat P with rfl | ⟨m, y, rfl⟩
    · simp at hP
    rw [List.concat_eq_append] at *
    have hm : m.length = n := by simpa using hP
    have hx := WB_rd hW n (by omega)
    obtain ⟨x, hxe⟩ := Int.eq_ofNat_of_zero_le hx.1
    rw [hxe] at hx
    have hd := VB_drop_rd 65536 l n (by omega)
    rw [hxe, Int.toNat_natCast] at hd
    obtain ⟨d1, d2⟩ := rdiv_step 2 (VB 65536 (l.drop (n + 1))) x (by omega)
    have hsm := div_small 2 (VB 65536 (l.drop (n + 1)) % 2) x (by omega) (by omega) (by omega)
    have h5 := ih m ((((VB 65536 (l.drop (n + 1)) % 2 * 65536 + x) / 2 : Nat) : Int) :: R) hm (by rw [List.length_cons]; omega) (WB_cons.2 ⟨by omega, hWR⟩) (by rw [VB, Int.toNat_natCast, hR, hd, d1])
    rw [hd, d2] at h5
    generalize VB 65536 (l.drop (n + 1)) = D at *
    refine Ev.step (fun k => ?_) h5
    show zelligeref03_Half.l0 (k + 1) _ _ _ _ = _
    have e1 : ((n + 1 : Nat) : Int) - 1 = (n : Int) := by omega
    have hL : (m ++ [y] ++ R).length = n + 1 + R.length := by rw [List.length_append, hP]
    have hst : ∀ v : Int, (m ++ [y] ++ R).set n v = m ++ v :: R := by
      intro v
      rw [List.append_assoc, ← hm]
      exact set_mid m _ v R
    have E1 := Aside0.mk (wpred n (by omega))
    have E3 := Aside0.mk (wdig (D % 2) x (by omega) (by omega))
    have e5 : Int.tdiv ((D % 2 * 65536 + x : Nat) : Int) 2 = (((D % 2 * 65536 + x) / 2 : Nat) : Int) := tdivN _ 2
    have e6 : Int.tmod ((D % 2 * 65536 + x : Nat) : Int) 2 = (((D % 2 * 65536 + x) % 2 : Nat) : Int) := tmodN _ 2
    have E7 := Aside0.mk (w64in (((D % 2 * 65536 + x) / 2 : Nat) : Int) (by omega) (by omega))
    simp only [zelligeref03_Half.l0]
    rw [e1, if_pos (by omega), if_pos (by omega), if_pos (by omega), if_pos (by omega), hxe, E3.out, e5, e6, E7.out, E1.out, Int.toNat_natCast, hst]
theorem RHalf_f (m : Nat) (hl : (NB 65536 m).length < 1000000000) : Ev (fun k => zelligeref03_Half.f k (NB 65536 m)) (NB 65536 (m / 2)) := by
  have h := RHalf_l0 (NB 65536 m) (WB_NB _ _) hl (NB 65536 m).length (List.replicate (NB 65536 m).length 0) [] (by simp) (by simp) (WB_nil _) (by rw [List.drop_length]; rfl)
  rw [List.drop_length, VB_NB (by omega), List.append_nil] at h
  unfold zelligeref03_Half.f
  refine Ev.congr (fun k => ?_) h
  rw [if_pos (by omega), if_pos (by omega), wpred _ (by omega), Int.toNat_natCast]
  rfl
theorem rd_zero (m : Nat) (h : 0 < m) : rd (NB 65536 m) 0 = ((m % 65536 : Nat) : Int) := by
  rw [NB_pos (by omega) h]; rfl
theorem rd_par (m : Nat) (h : 0 < m) : Int.tmod (rd (NB 65536 m) 0) 2 = ((m % 2 : Nat) : Int) := by
  rw [rd_zero m h, show (2 : Int) = ((2 : Nat) : Int) from rfl, tmodN]
  omega
theorem NB_lpos (m : Nat) (h : 0 < m) : 0 < (NB 65536 m).length := by
  rcases Nat.eq_zero_or_pos (NB 65536 m).length with e | e
  · have := (NB_len0 (b := 65536) (by omega) m).1 e
    omega
  · exact e
/-- Half of one number, beside one that has no even divisor with it. -/
theorem gcd_half (x y : Nat) (h : x % 2 = 0) (hg : Nat.gcd x y % 2 = 1) : Nat.gcd (x / 2) y = Nat.gcd x y := by
  have hx : x = 2 * (x / 2) := by omega
  refine Nat.dvd_antisymm ?_ ?_
  · refine Nat.dvd_gcd ?_ (Nat.gcd_dvd_right _ _)
    rw [hx]
    exact Nat.dvd_trans (Nat.gcd_dvd_left _ _) (by rw [← hx]; exact ⟨2, by omega⟩)
  · refine Nat.dvd_gcd ?_ (Nat.gcd_dvd_right _ _)
    have hc : Nat.Coprime (Nat.gcd x y) 2 := by
      unfold Nat.Coprime
      rw [Nat.gcd_comm, Nat.gcd_rec, hg]
      rfl
    refine hc.dvd_of_dvd_mul_left ?_
    rw [← hx]
    exact Nat.gcd_dvd_left _ _
theorem gcd_two (x y : Nat) (h : x % 2 = 0) (h2 : y % 2 = 0) : Nat.gcd x y = 2 * Nat.gcd (x / 2) (y / 2) := by
  rw [← Nat.gcd_mul_left, show 2 * (x / 2) = x from by omega, show 2 * (y / 2) = y from by omega]
theorem gcd_odd (x y : Nat) (h : ¬ (x % 2 = 0 ∧ y % 2 = 0)) : Nat.gcd x y % 2 = 1 := by
  rcases Nat.mod_two_eq_zero_or_one (Nat.gcd x y) with e | e
  · exfalso
    have h2 := Nat.dvd_of_mod_eq_zero e
    exact h ⟨Nat.mod_eq_zero_of_dvd (Nat.dvd_trans h2 (Nat.gcd_dvd_left _ _)), Nat.mod_eq_zero_of_dvd (Nat.dvd_trans h2 (Nat.gcd_dvd_right _ _))⟩
  · exact e
theorem gcd_sub' (x y : Nat) (h : y ≤ x) : Nat.gcd (x - y) y = Nat.gcd x y := Nat.gcd_sub_self_left h
section
variable (B : Nat) (hB : (NB 65536 B).length < 500000000)
include hB
theorem RGcd_l4 (y two : Nat) (hy : 0 < y) (ht : two < 4611686018427387904) : ∀ (d i o : Nat), two - i = d → i ≤ two → 0 < o → y * (o * 2 ^ d) ≤ B →
    Ev (fun k => zelligeref03_Gcd.l4 k (NB 65536 o) (NB 65536 y) (two : Int) (i : Int)) (NB 65536 (y * (o * 2 ^ d))) := by
  have hle : ∀ z, z ≤ B → (NB 65536 z).length < 500000000 := fun z h => by
    have := len_le _ _ h
    omega
  intro d
  induction d with
  | zero =>
    intro i o hd hi ho hb
    rw [Nat.pow_zero, Nat.mul_one] at hb ⊢
    have l1 := hle y (Nat.le_trans (Nat.le_mul_of_pos_right _ ho) hb)
    have l2 := hle o (Nat.le_trans (Nat.le_mul_of_pos_left _ hy) hb)
    have h1 := RMul_f (NB 65536 y) (NB 65536 o) (WB_NB _ _) (WB_NB _ _) (by omega)
    rw [VB_NB (by omega), VB_NB (by omega)] at h1
    refine Ev.step (fun k => ?_) (Ev.bind (f := fun _ t => some t) h1 (Ev.now _))
    show zelligeref03_Gcd.l4 (k + 1) _ _ _ _ = _
    simp only [zelligeref03_Gcd.l4]
    rw [if_neg (by omega)]
  | succ d ih =>
    intro i o hd hi ho hb
    have e : y * (o * 2 ^ (d + 1)) = y * ((o + o) * 2 ^ d) := by
      rw [Nat.pow_succ, ← Nat.two_mul]
      congr 1
      rw [Nat.mul_comm (2 ^ d) 2, ← Nat.mul_assoc, Nat.mul_comm o 2]
    rw [e] at hb ⊢
    have l2 := hle (o + o) (Nat.le_trans (Nat.le_mul_of_pos_left _ hy) (Nat.le_trans (Nat.mul_le_mul_left _ (Nat.le_mul_of_pos_right _ (Nat.two_pow_pos d))) hb))
    have l3 := len_le o (o + o) (by omega)
    have h1 := RAdd_f (NB 65536 o) (NB 65536 o) (WB_NB _ _) (WB_NB _ _) (by omega) (by omega)
    rw [VB_NB (by omega)] at h1
    have h2 := ih (i + 1) (o + o) (by omega) (by omega) (by omega) hb
    refine Ev.step (fun k => ?_) (Ev.bind (f := fun k t => zelligeref03_Gcd.l4 k t (NB 65536 y) (two : Int) ((i + 1 : Nat) : Int)) h1 h2)
    show zelligeref03_Gcd.l4 (k + 1) _ _ _ _ = _
    simp only [zelligeref03_Gcd.l4]
    rw [if_pos (by omega), wsucc i (by omega)]
theorem RGcd_l2 (one y : List Int) (two : Int) (Y : Nat) : ∀ (s x : Nat), x ≤ s → 0 < x → x ≤ B → Nat.gcd x Y % 2 = 1 → ∃ x', x' ≤ x ∧ x' % 2 = 1 ∧ Nat.gcd x' Y = Nat.gcd x Y ∧
    ∀ res, Ev (fun k => zelligeref03_Gcd.l3 k one (NB 65536 x') y two) res → Ev (fun k => zelligeref03_Gcd.l2 k one (NB 65536 x) y two) res := by
  intro s
  induction s with
  | zero => intro x h h0; omega
  | succ s ih =>
    intro x h h0 hb hg
    have hp := NB_lpos x h0
    have hr := rd_par x h0
    by_cases he : x % 2 = 0
    · obtain ⟨x', a, b, c, e⟩ := ih (x / 2) (by omega) (by omega) (by omega) (by rw [gcd_half x Y he hg]; exact hg)
      refine ⟨x', by omega, b, by rw [c, gcd_half x Y he hg], fun res hres => ?_⟩
      have lx := len_le _ _ hb
      refine Ev.step (fun k => ?_) (Ev.bind (f := fun k t => zelligeref03_Gcd.l2 k one t y two) (RHalf_f x (by omega)) (e res hres))
      show zelligeref03_Gcd.l2 (k + 1) _ _ _ _ = _
      simp only [zelligeref03_Gcd.l2]
      rw [if_pos (by omega), hr, if_pos (by omega)]
    · refine ⟨x, Nat.le_refl _, by omega, rfl, fun res hres => Ev.step (fun k => ?_) hres⟩
      show zelligeref03_Gcd.l2 (k + 1) _ _ _ _ = _
      simp only [zelligeref03_Gcd.l2]
      rw [if_pos (by omega), hr, if_neg (by omega)]
theorem RGcd_l3 (one x : List Int) (two : Int) (X : Nat) : ∀ (s y : Nat), y ≤ s → 0 < y → y ≤ B → Nat.gcd y X % 2 = 1 → ∃ y', 0 < y' ∧ y' ≤ y ∧ y' % 2 = 1 ∧ Nat.gcd y' X = Nat.gcd y X ∧
    ∀ res, Ev (fun k => zelligeref03_Gcd.l3 k one x (NB 65536 y') two) res → Ev (fun k => zelligeref03_Gcd.l3 k one x (NB 65536 y) two) res := by
  intro s
  induction s with
  | zero => intro y h h0; omega
  | succ s ih =>
    intro y h h0 hb hg
    have hp := NB_lpos y h0
    have hr := rd_par y h0
    by_cases he : y % 2 = 0
    · obtain ⟨y', z, a, b, c, e⟩ := ih (y / 2) (by omega) (by omega) (by omega) (by rw [gcd_half y X he hg]; exact hg)
      refine ⟨y', z, by omega, b, by rw [c, gcd_half y X he hg], fun res hres => ?_⟩
      have ly := len_le _ _ hb
      refine Ev.step (fun k => ?_) (Ev.bind (f := fun k t => zelligeref03_Gcd.l3 k one x t two) (RHalf_f y (by omega)) (e res hres))
      show zelligeref03_Gcd.l3 (k + 1) _ _ _ _ = _
      simp only [zelligeref03_Gcd.l3]
      rw [if_pos (by omega), hr, if_pos (by omega)]
    · exact ⟨y, h0, Nat.le_refl _, by omega, rfl, fun res hres => hres⟩
theorem RGcd_l1 (G two : Nat) (hG : G % 2 = 1) (ht : two < 4611686018427387904) (hb2 : G * 2 ^ two ≤ B) : ∀ (s x y : Nat), x + y ≤ s → 0 < y → Nat.gcd x y = G → x ≤ B → y ≤ B →
    Ev (fun k => zelligeref03_Gcd.l1 k (NB 65536 1) (NB 65536 x) (NB 65536 y) (two : Int)) (NB 65536 (G * 2 ^ two)) := by
  intro s
  induction s with
  | zero => intro x y h h0; omega
  | succ s ih =>
    intro x y h h0 hg hx hy
    rcases Nat.eq_zero_or_pos x with rfl | hx0
    · rw [Nat.gcd_zero_left] at hg
      subst hg
      have h1 := RGcd_l4 B hB y two h0 ht two 0 1 rfl (by omega) (by omega) (by rw [Nat.one_mul]; exact hb2)
      rw [Nat.one_mul] at h1
      refine Ev.step (fun k => ?_) h1
      show zelligeref03_Gcd.l1 (k + 1) _ _ _ _ = _
      simp only [zelligeref03_Gcd.l1]
      rw [NB_zero, if_neg (by simp)]
      rfl
    · have hp := NB_lpos x hx0
      obtain ⟨x', a1, a2, a3, a4⟩ := RGcd_l2 B hB (NB 65536 1) (NB 65536 y) (two : Int) y x x (Nat.le_refl _) hx0 hx (by rw [hg]; exact hG)
      obtain ⟨y', b0, b1, b2, b3, b4⟩ := RGcd_l3 B hB (NB 65536 1) (NB 65536 x') (two : Int) x' y y (Nat.le_refl _) h0 hy (by rw [Nat.gcd_comm, a3, hg]; exact hG)
      have hg' : Nat.gcd x' y' = G := by rw [Nat.gcd_comm, b3, Nat.gcd_comm, a3, hg]
      refine Ev.step (fun k => ?_) (a4 _ (b4 _ ?_))
      · show zelligeref03_Gcd.l1 (k + 1) _ _ _ _ = _
        simp only [zelligeref03_Gcd.l1]
        rw [if_pos (by omega)]
      · have hpy := NB_lpos y' b0
        have hry := rd_par y' b0
        have lx := len_le x' B (by omega)
        have ly := len_le y' B (by omega)
        have hc := RCmp_f x' y' (by omega)
        rcases Nat.lt_or_ge x' y' with hlt | hge
        · have hce : cmpN x' y' = -1 := by unfold cmpN; rw [if_pos hlt]
          rw [hce] at hc
          have hs := RSub_f y' x' (by omega) (by omega)
          have hn := ih (y' - x') x' (by omega) (by omega) (by rw [gcd_sub' y' x' (by omega), Nat.gcd_comm]; exact hg') (by omega) (by omega)
          refine Ev.step (fun k => ?_) (Ev.bind (f := fun k t => if t < 0 then (zelligeref03_Sub.f k (NB 65536 y') (NB 65536 x')).bind fun t => zelligeref03_Gcd.l1 k (NB 65536 1) t (NB 65536 x') (two : Int) else (zelligeref03_Sub.f k (NB 65536 x') (NB 65536 y')).bind fun t => zelligeref03_Gcd.l1 k (NB 65536 1) t (NB 65536 y') (two : Int)) hc (Ev.congr (fun k => if_pos (by omega)) (Ev.bind hs hn)))
          show zelligeref03_Gcd.l3 (k + 1) _ _ _ _ = _
          simp only [zelligeref03_Gcd.l3]
          rw [if_pos (by omega), hry, if_neg (by omega)]
        · have hce : ¬ cmpN x' y' < 0 := by unfold cmpN; rw [if_neg (by omega)]; split <;> omega
          generalize cmpN x' y' = c at *
          have hs := RSub_f x' y' hge (by omega)
          have hn := ih (x' - y') y' (by omega) (by omega) (by rw [gcd_sub' x' y' hge]; exact hg') (by omega) (by omega)
          refine Ev.step (fun k => ?_) (Ev.bind (f := fun k t => if t < 0 then (zelligeref03_Sub.f k (NB 65536 y') (NB 65536 x')).bind fun t => zelligeref03_Gcd.l1 k (NB 65536 1) t (NB 65536 x') (two : Int) else (zelligeref03_Sub.f k (NB 65536 x') (NB 65536 y')).bind fun t => zelligeref03_Gcd.l1 k (NB 65536 1) t (NB 65536 y') (two : Int)) hc (Ev.congr (fun k => if_neg hce) (Ev.bind hs hn)))
          show zelligeref03_Gcd.l3 (k + 1) _ _ _ _ = _
          simp only [zelligeref03_Gcd.l3]
          rw [if_pos (by omega), hry, if_neg (by omega)]
theorem RGcd_l0 : ∀ (s two x y : Nat), x < 2 ^ s → 0 < x → 0 < y → x ≤ B → y ≤ B → Nat.gcd x y * 2 ^ two ≤ B → two + s < 4611686018427387904 →
    Ev (fun k => zelligeref03_Gcd.l0 k (NB 65536 1) (NB 65536 x) (NB 65536 y) (two : Int)) (NB 65536 (Nat.gcd x y * 2 ^ two)) := by
  intro s
  induction s with
  | zero => intro two x y h h0; rw [Nat.pow_zero] at h; omega
  | succ s ih =>
    intro two x y h h0 hy0 hx hy hb ht
    have hpx := NB_lpos x h0
    have hpy := NB_lpos y hy0
    have hrx := rd_par x h0
    have hry := rd_par y hy0
    have odd : ¬ (x % 2 = 0 ∧ y % 2 = 0) → Ev (fun k => zelligeref03_Gcd.j1 k (NB 65536 1) (NB 65536 x) (NB 65536 y) (two : Int) false) (NB 65536 (Nat.gcd x y * 2 ^ two)) := by
      intro ho
      refine Ev.step (fun k => ?_) (RGcd_l1 B hB (Nat.gcd x y) two (gcd_odd x y ho) (by omega) hb _ x y (Nat.le_refl _) hy0 rfl hx hy)
      show zelligeref03_Gcd.j1 (k + 1) _ _ _ _ _ = _
      simp only [zelligeref03_Gcd.j1]
      rw [if_neg Bool.false_ne_true]
    by_cases hex : x % 2 = 0
    · by_cases hey : y % 2 = 0
      · have e : Nat.gcd x y * 2 ^ two = Nat.gcd (x / 2) (y / 2) * 2 ^ (two + 1) := by
          rw [gcd_two x y hex hey, Nat.pow_succ, Nat.mul_comm 2, Nat.mul_assoc, Nat.mul_comm 2]
        rw [e] at hb ⊢
        have hx2 : x / 2 < 2 ^ s := by rw [Nat.pow_succ] at h; omega
        have h1 := ih (two + 1) (x / 2) (y / 2) hx2 (by omega) (by omega) (by omega) (by omega) hb (by omega)
        have lx := len_le _ _ hx
        have ly := len_le _ _ hy
        have hw := wsucc two (by omega)
        refine Ev.step (f := fun k => zelligeref03_Gcd.j1 k (NB 65536 1) (NB 65536 x) (NB 65536 y) (two : Int) true) (fun k => ?_) (Ev.step (fun k => ?_) (Ev.bind (f := fun k t => (zelligeref03_Half.f k (NB 65536 y)).bind fun u => zelligeref03_Gcd.l0 k (NB 65536 1) t u ((two + 1 : Nat) : Int)) (RHalf_f x (by omega)) (Ev.bind (RHalf_f y (by omega)) h1)))
        · show zelligeref03_Gcd.l0 (k + 1) _ _ _ _ = _
          simp only [zelligeref03_Gcd.l0]
          rw [if_pos (by omega), hrx, if_pos (by omega), if_pos (by omega), hry, hey]
          rfl
        · show zelligeref03_Gcd.j1 (k + 1) _ _ _ _ _ = _
          simp only [zelligeref03_Gcd.j1]
          rw [if_pos trivial, hw]
      · refine Ev.step (fun k => ?_) (odd (fun h => hey h.2))
        show zelligeref03_Gcd.l0 (k + 1) _ _ _ _ = _
        simp only [zelligeref03_Gcd.l0]
        rw [if_pos (by omega), hrx, if_pos (by omega), if_pos (by omega), hry, show y % 2 = 1 from by omega]
        rfl
    · refine Ev.step (fun k => ?_) (odd (fun h => hex h.1))
      show zelligeref03_Gcd.l0 (k + 1) _ _ _ _ = _
      simp only [zelligeref03_Gcd.l0]
      rw [if_pos (by omega), hrx, if_neg (by omega)]
end
theorem RGcd_f (m n : Nat) (hm : (NB 65536 m).length < 500000000) (hn : (NB 65536 n).length < 500000000) : Ev (fun k => zelligeref03_Gcd.f k (NB 65536 m) (NB 65536 n)) (NB 65536 (Nat.gcd m n)) := by
  unfold zelligeref03_Gcd.f
  rcases Nat.eq_zero_or_pos m with rfl | h0
  · rw [Nat.gcd_zero_left]
    refine Ev.congr (fun k => ?_) (Ev.now _)
    rw [NB_zero, if_pos (by simp)]
  · rcases Nat.eq_zero_or_pos n with rfl | hn0
    · rw [Nat.gcd_zero_right]
      have := NB_lpos m h0
      refine Ev.congr (fun k => ?_) (Ev.now _)
      rw [if_neg (by omega), NB_zero, if_pos (by simp)]
    · have p1 := NB_lpos m h0
      have p2 := NB_lpos n hn0
      have hone : NB 65536 1 = [1] := by rw [NB_pos (by omega) (by omega), NB_zero]; rfl
      have hB : (NB 65536 (max m n)).length < 500000000 := by
        rcases Nat.le_total m n with h | h
        · rw [Nat.max_eq_right h]; exact hn
        · rw [Nat.max_eq_left h]; exact hm
      have hs : m < 2 ^ (16 * (NB 65536 m).length) := by
        rw [Nat.pow_mul]
        exact NB_lt_length (by omega) m
      have h1 := RGcd_l0 (max m n) hB (16 * (NB 65536 m).length) 0 m n hs h0 hn0 (Nat.le_max_left _ _) (Nat.le_max_right _ _) (by rw [Nat.pow_zero, Nat.mul_one]; exact Nat.le_trans (Nat.gcd_le_left _ h0) (Nat.le_max_left _ _)) (by omega)
      rw [Nat.pow_zero, Nat.mul_one, hone] at h1
      refine Ev.congr (fun k => ?_) h1
      rw [if_neg (by omega), if_neg (by omega)]
      rfl
end Go.Proofs.YtofklpmlgfbmlaaGreat.ZRatP
/- What the printed functions of nat come to, told of numbers: how many bits a number takes. -/
namespace Go.Proofs.YtofklpmlgfbmlaaGreat.ZRatP
open Go.RowKit Go.Proofs.YtofklpmlgfbmlaaGreat.Wd Go.Proofs.YtofklpmlgfbmlaaGreat.Num Go.Proofs.YtofklpmlgfbmlaaGreat.ZRat
set_option linter.unusedVariables false
set_option linter.unusedSimpArgs false

theorem Bits_f (a : List Int) (ha : WB 4294967296 a) (la : a.length < 1000000000) : Ev (fun k => nat_Bits.f k a) ((nbits (VB 4294967296 a) : Nat) : Int) := by
  have l1 := NBV_len (b := 4294967296) (by omega) ha
  have h1 : Ev (fun k => nat_size.f k a) ((nbits (VB 4294967296 a) : Nat) : Int) := by
    unfold nat_size.f
    refine Ev.bind (trim_f a ha (by omega)) ?_
    generalize VB 4294967296 a = m at *
    rcases List.eq_nil_or_concat (NB 4294967296 m) with e | ⟨p, x, e⟩
    · have h0 := (NB_eq_nil (b := 4294967296) (by omega) m).1 e
      subst h0
      refine Ev.congr (fun k => ?_) (Ev.now _)
      rw [NB_zero, if_pos (by simp)]
      rfl
    · rw [List.concat_eq_append] at e
      have hx0 := NB_last (b := 4294967296) (by omega) m p x e
      have hW := WB_NB 4294967296 m
      have hv := VB_NB (b := 4294967296) (by omega) m
      rw [e] at hW hv l1 ⊢
      obtain ⟨hWp, hWx⟩ := WB_append.1 hW
      have hx := (WB_cons.1 hWx).1
      obtain ⟨x, rfl⟩ := Int.eq_ofNat_of_zero_le hx.1
      obtain ⟨L, a1, a2, a3, a4, a5⟩ := len_f x (by omega) (by omega)
      have hr : rd (p ++ [(x : Int)]) (p.length : Int) = (x : Int) := rd_mid p _ []
      have hl : (p ++ [(x : Int)]).length = p.length + 1 := by simp
      have hlow := VB_lt (b := 4294967296) (by omega) hWp
      rw [VB_snoc, Int.toNat_natCast] at hv
      have hp : (4294967296 : Nat) ^ p.length = 2 ^ (32 * p.length) := by rw [Nat.pow_mul]
      have hnb : nbits m = 32 * p.length + L := by
        have h6 := nbits_of m (32 * p.length + (L - 1)) (by
          rw [Nat.pow_add, ← hp, ← hv]
          exact Nat.le_trans (Nat.mul_le_mul_left _ a3) (Nat.le_add_left _ _)) (by
          rw [show 32 * p.length + (L - 1) + 1 = 32 * p.length + L from by omega, Nat.pow_add, ← hp, ← hv]
          have h7 : 4294967296 ^ p.length * (x + 1) ≤ 4294967296 ^ p.length * 2 ^ L := Nat.mul_le_mul_left _ a4
          rw [Nat.mul_add, Nat.mul_one] at h7
          omega)
        omega
      rw [hnb]
      have E1 := Aside0.mk (wpred (p.length + 1) (by omega))
      have E2 := Aside0.mk (w64in (32 * (p.length : Int)) (by omega) (by omega))
      have E3 := Aside0.mk (w64in (32 * (p.length : Int) + (L : Int)) (by omega) (by omega))
      have e4 : ((p.length + 1 : Nat) : Int) - 1 = (p.length : Int) := by omega
      clear hp hlow hv a3 a4 hnb
      refine Ev.congr (fun k => ?_) (Ev.now _)
      rw [hl, if_neg (by omega), E1.out, e4, if_pos (by omega), if_pos (by omega), hr, a5, Option.bind_some, E2.out, E3.out]
      congr 1
  unfold nat_Bits.f
  exact Ev.bind h1 (Ev.now _)
end Go.Proofs.YtofklpmlgfbmlaaGreat.ZRatP
/- Whole numbers as a sign and digits: plain law. -/
namespace Go.Proofs.YtofklpmlgfbmlaaGreat.ZRatP
open Go.RowKit Go.Proofs.YtofklpmlgfbmlaaGreat.Wd Go.Proofs.YtofklpmlgfbmlaaGreat.Num
set_option linter.unusedVariables false
set_option linter.unusedSimpArgs false

/-- What a sign and digits are worth; a number's one form; the reference's form. -/
def IVal (neg : Bool) (l : List Int) : Int := if neg = true then -((VB 4294967296 l : Nat) : Int) else ((VB 4294967296 l : Nat) : Int)
def IC (z : Int) : Bool × List Int := (decide (z < 0), NB 4294967296 z.natAbs)
def RI (z : Int) : Int × List Int := (z.sign, NB 65536 z.natAbs)
/-- A number of at most j words. -/
def Sz (z : Int) (j : Nat) : Prop := z.natAbs < 4294967296 ^ j
theorem IC_val (z : Int) : IVal (IC z).1 (IC z).2 = z := by
  unfold IVal IC
  simp only [VB_NB (show 2 ≤ 4294967296 by omega), decide_eq_true_eq]
  split <;> omega
theorem IVal_abs (neg : Bool) (l : List Int) : (IVal neg l).natAbs = VB 4294967296 l := by
  unfold IVal
  split <;> omega
theorem RI_VB (z : Int) : VB 65536 (RI z).2 = z.natAbs := VB_NB (by omega) _
theorem IC_of (neg : Bool) (n : Nat) : IC (if neg = true then -(n : Int) else (n : Int)) = (neg && decide (0 < n), NB 4294967296 n) := by
  unfold IC
  cases neg with
  | false =>
    simp only [Bool.false_eq_true, if_false, Int.natAbs_natCast, Bool.false_and]
    rw [decide_eq_false (by omega)]
  | true =>
    simp only [if_true, Int.natAbs_neg, Int.natAbs_natCast, Bool.true_and]
    congr 1
    by_cases h : 0 < n
    · rw [decide_eq_true h, decide_eq_true (by omega)]
    · rw [decide_eq_false h, decide_eq_false (by omega)]
theorem len16s (n j : Nat) (h : n < 4294967296 ^ j) : (NB 65536 n).length ≤ 2 * j ∧ (NB 4294967296 n).length ≤ j := by
  constructor
  · refine NB_length_le (by omega) _ _ ?_
    rw [Nat.pow_mul]
    exact h
  · exact NB_length_le (by omega) _ _ h
theorem Sz_len {z : Int} {j : Nat} (h : Sz z j) : (RI z).2.length ≤ 2 * j ∧ (IC z).2.length ≤ j := len16s _ _ h
theorem Sz_neg {z : Int} {j : Nat} (h : Sz z j) : Sz (-z) j := by
  unfold Sz
  rw [Int.natAbs_neg]
  exact h
theorem pow_two_le (j : Nat) : 4294967296 ^ j + 4294967296 ^ j ≤ 4294967296 ^ (j + 1) := by
  rw [Nat.pow_succ]
  generalize 4294967296 ^ j = p
  omega
theorem Sz_val {neg : Bool} {l : List Int} {j : Nat} (h : WB 4294967296 l) (hl : l.length ≤ j) : Sz (IVal neg l) j := by
  unfold Sz
  rw [IVal_abs]
  exact Nat.lt_of_lt_of_le (VB_lt (by omega) h) (Nat.pow_le_pow_right (by omega) hl)
theorem Sz_long {z : Int} (h0 : -9223372036854775808 ≤ z) (h1 : z ≤ 9223372036854775808) : Sz z 2 := by
  unfold Sz
  omega
/-- The order of two numbers. -/
def cmpZ (x y : Int) : Int := if x < y then -1 else if y < x then 1 else 0
theorem cmpZ_sign (x y : Int) : cmpZ x y = (x - y).sign := by
  unfold cmpZ
  rcases Int.lt_trichotomy x y with h | h | h
  · rw [if_pos h, Int.sign_eq_neg_one_of_neg (by omega)]
  · subst h
    rw [if_neg (by omega), if_neg (by omega), Int.sub_self]
    rfl
  · rw [if_neg (by omega), if_pos h, Int.sign_eq_one_of_pos (by omega)]
theorem cmpZ_self (x : Int) : cmpZ x x = 0 := by unfold cmpZ; rw [if_neg (by omega), if_neg (by omega)]
theorem bind_pair {α β : Type} (o : Option (α × β)) : (o.bind fun p => some (p.1, p.2)) = o := by cases o <;> rfl
theorem bind_one {α : Type} (o : Option α) : (o.bind fun p => some p) = o := by cases o <;> rfl
theorem Ev.of {α : Type} {o : Option α} {r : α} (h : o = some r) : Ev (fun _ => o) r := ⟨0, fun _ _ => h⟩
/-- A number as it is shown. -/
def showZ (z : Int) : ByteArray := if z < 0 then (⟨#[45]⟩ : ByteArray) ++ showS z.natAbs else showS z.natAbs
end Go.Proofs.YtofklpmlgfbmlaaGreat.ZRatP
/- What the printed functions of whole come to, told of whole numbers: form, sum, difference, product, sign, order, text. -/
namespace Go.Proofs.YtofklpmlgfbmlaaGreat.ZRatP
open Go.RowKit Go.Proofs.YtofklpmlgfbmlaaGreat.Wd Go.Proofs.YtofklpmlgfbmlaaGreat.Num Go.Proofs.YtofklpmlgfbmlaaGreat.ZRat
set_option linter.unusedVariables false
set_option linter.unusedSimpArgs false

theorem norm_f (neg : Bool) (l : List Int) (h : WB 4294967296 l) (hl : l.length < 1000000000) : Ev (fun k => whole_norm.f k neg l) (IC (IVal neg l)) := by
  unfold whole_norm.f
  refine Ev.bind (Trim_f l h (by omega)) ?_
  unfold IVal
  rw [IC_of]
  generalize VB 4294967296 l = n
  have hn : decide (((NB 4294967296 n).length : Int) > 0) = decide (0 < n) := by
    have := NB_len0 (b := 4294967296) (by omega) n
    by_cases h0 : 0 < n
    · rw [decide_eq_true h0, decide_eq_true (by omega)]
    · rw [decide_eq_false h0, decide_eq_false (by omega)]
  cases neg with
  | false => exact Ev.now _
  | true =>
    refine Ev.congr (fun k => ?_) (Ev.now _)
    rw [if_pos rfl, hn, Bool.true_and]
theorem norm_n (neg : Bool) (n : Nat) (hl : (NB 4294967296 n).length < 1000000000) : Ev (fun k => whole_norm.f k neg (NB 4294967296 n)) (IC (if neg = true then -(n : Int) else (n : Int))) := by
  have := norm_f neg (NB 4294967296 n) (WB_NB _ _) hl
  unfold IVal at this
  rwa [VB_NB (by omega)] at this
theorem wNorm_f (neg : Bool) (l : List Int) (h : WB 4294967296 l) (hl : l.length < 1000000000) : Ev (fun k => whole_Norm.f k neg l) (IC (IVal neg l)) :=
  Ev.congr (fun k => by unfold whole_Norm.f; rw [bind_pair]) (norm_f neg l h hl)
theorem len_mul (m n i : Nat) (hm : m < 4294967296 ^ i) (hn : n < 4294967296 ^ i) : (NB 4294967296 (m * n)).length ≤ i + i := by
  refine NB_length_le (by omega) _ _ ?_
  rw [Nat.pow_add]
  exact Nat.mul_lt_mul'' hm hn
theorem VB_lim (l : List Int) (j : Nat) (h : WB 4294967296 l) (hl : l.length ≤ j) : VB 4294967296 l < 4294967296 ^ j := Nat.lt_of_lt_of_le (VB_lt (by omega) h) (Nat.pow_le_pow_right (by omega) hl)
theorem len_mulL (a b : List Int) (j : Nat) (ha : WB 4294967296 a) (hb : WB 4294967296 b) (la : a.length ≤ j) (lb : b.length ≤ j) : (NB 4294967296 (VB 4294967296 a * VB 4294967296 b)).length ≤ j + j :=
  len_mul _ _ j (VB_lim a j ha la) (VB_lim b j hb lb)
theorem IVal_not (na : Bool) (a : List Int) : IVal (!na) a = -IVal na a := by
  unfold IVal
  cases na <;> simp
theorem wneg_f (na : Bool) (a : List Int) (ha : WB 4294967296 a) (la : a.length < 100000000) : Ev (fun k => whole_neg.f k na a) (IC (-IVal na a)) := by
  have := norm_f (!na) a ha (by omega)
  rw [IVal_not] at this
  exact Ev.congr (fun k => by unfold whole_neg.f; rw [bind_pair]) this
theorem wNeg_f (na : Bool) (a : List Int) (ha : WB 4294967296 a) (la : a.length < 100000000) : Ev (fun k => whole_Neg.f k na a) (IC (-IVal na a)) :=
  Ev.congr (fun k => by unfold whole_Neg.f; rw [bind_pair]) (wneg_f na a ha la)
theorem wMul_f (na nb : Bool) (a b : List Int) (ha : WB 4294967296 a) (hb : WB 4294967296 b) (la : a.length < 100000000) (lb : b.length < 100000000) :
    Ev (fun k => whole_Mul.f k na a nb b) (IC (IVal na a * IVal nb b)) := by
  unfold whole_Mul.f
  have hl := len_mulL a b 100000000 ha hb (by omega) (by omega)
  have h1 := norm_n (na != nb) (VB 4294967296 a * VB 4294967296 b) (by omega)
  have e : (if (na != nb) = true then -((VB 4294967296 a * VB 4294967296 b : Nat) : Int) else ((VB 4294967296 a * VB 4294967296 b : Nat) : Int)) = IVal na a * IVal nb b := by
    unfold IVal
    cases na <;> cases nb <;> simp [Int.natCast_mul, Int.neg_mul, Int.mul_neg]
  rw [e] at h1
  refine Ev.bind (Mul_f a b ha hb (by omega)) ?_
  exact Ev.congr (fun k => bind_pair _) h1
theorem wsign_f (na : Bool) (a : List Int) (ha : WB 4294967296 a) (la : a.length < 100000000) : Ev (fun k => whole_sign.f k na a) (IVal na a).sign := by
  unfold whole_sign.f
  refine Ev.bind (Bits_f a ha (by omega)) ?_
  unfold IVal
  generalize VB 4294967296 a = n
  rcases Nat.eq_zero_or_pos n with rfl | h
  · refine Ev.congr (fun k => ?_) (Ev.now _)
    rw [if_pos (by rfl)]
    cases na <;> rfl
  · have hb : ((nbits n : Nat) : Int) ≠ 0 := by
      unfold nbits
      rw [if_neg (by omega)]
      omega
    refine Ev.congr (fun k => ?_) (Ev.now _)
    rw [if_neg hb]
    cases na with
    | false => rw [if_neg Bool.false_ne_true, if_neg Bool.false_ne_true, Int.sign_eq_one_of_pos (by omega)]
    | true => rw [if_pos rfl, if_pos rfl, Int.sign_eq_neg_one_of_neg (by omega)]
theorem wSign_f (na : Bool) (a : List Int) (ha : WB 4294967296 a) (la : a.length < 100000000) : Ev (fun k => whole_Sign.f k na a) (IVal na a).sign :=
  Ev.congr (fun k => by unfold whole_Sign.f; rw [bind_one]) (wsign_f na a ha la)
theorem wOf_f (z : Int) (h0 : -9223372036854775808 ≤ z) (h1 : z < 9223372036854775808) : Ev (fun k => whole_Of.f k z) (IC z) := by
  unfold whole_Of.f
  rcases Int.lt_or_le z 0 with h | h
  · have e : IntKind.u64.wrap (-(IntKind.u64.wrap z)) = (z.natAbs : Int) := by
      rw [u64w, u64w]
      omega
    have l1 : (NB 4294967296 z.natAbs).length ≤ 2 := NB_length_le (by omega) _ _ (by omega)
    have h2 := norm_n true z.natAbs (by omega)
    rw [if_pos rfl, show -((z.natAbs : Nat) : Int) = z from by omega] at h2
    have h3 := Of_f (z.natAbs : Int) (by omega) (by omega)
    rw [Int.toNat_natCast] at h3
    refine Ev.congr (fun k => ?c) (Ev.bind (f := ?F) h3 ?d)
    case c => rw [if_pos h, e]
    case d => exact Ev.congr (fun k => bind_pair _) h2
  · have e : IntKind.u64.wrap z = (z.natAbs : Int) := by
      rw [u64w]
      omega
    have l1 : (NB 4294967296 z.natAbs).length ≤ 2 := NB_length_le (by omega) _ _ (by omega)
    have h2 := norm_n false z.natAbs (by omega)
    rw [if_neg Bool.false_ne_true, show ((z.natAbs : Nat) : Int) = z from by omega] at h2
    have h3 := Of_f (z.natAbs : Int) (by omega) (by omega)
    rw [Int.toNat_natCast] at h3
    refine Ev.congr (fun k => ?c1) (Ev.bind (f := ?F1) h3 ?d1)
    case c1 => rw [if_neg (by omega), e]
    case d1 => exact Ev.congr (fun k => bind_pair _) h2
theorem showS_size' (n j : Nat) (h : n < 4294967296 ^ j) (hj : 0 < j) : (showS n).size ≤ 10 * j := by
  rw [← bytesOf_length, bytesOf_showS]
  refine decS_len n _ (by omega) (Nat.lt_of_lt_of_le h ?_)
  rw [Nat.pow_mul]
  exact Nat.pow_le_pow_left (by decide) j
end Go.Proofs.YtofklpmlgfbmlaaGreat.ZRatP
/- What the printed functions of the reference for whole come to, told of whole numbers. -/
namespace Go.Proofs.YtofklpmlgfbmlaaGreat.ZRatP
open Go.RowKit Go.Proofs.YtofklpmlgfbmlaaGreat.Wd Go.Proofs.YtofklpmlgfbmlaaGreat.Num Go.Proofs.YtofklpmlgfbmlaaGreat.ZRat
set_option linter.unusedVariables false
set_option linter.unusedSimpArgs false

theorem sign_cases (z : Int) : (z < 0 ∧ z.sign = -1) ∨ (z = 0 ∧ z.sign = 0) ∨ (0 < z ∧ z.sign = 1) := by
  rcases Int.lt_trichotomy z 0 with h | h | h
  · exact .inl ⟨h, Int.sign_eq_neg_one_of_neg h⟩
  · subst h; exact .inr (.inl ⟨rfl, rfl⟩)
  · exact .inr (.inr ⟨h, Int.sign_eq_one_of_pos h⟩)
theorem w_sign (z : Int) : wrap64 (-z.sign) = (-z).sign := by
  rw [Int.sign_neg]
  rcases sign_cases z with h | h | h <;> rw [h.2] <;> exact w64in _ (by decide) (by decide)
theorem w_sign_mul (y z : Int) : wrap64 (y.sign * z.sign) = (y * z).sign := by
  rw [Int.sign_mul]
  rcases sign_cases y with h | h | h <;> rcases sign_cases z with h' | h' | h' <;> rw [h.2, h'.2] <;> exact w64in _ (by decide) (by decide)
theorem RI_zero : RI 0 = (0, []) := by unfold RI; rw [Int.natAbs_zero, NB_zero]; rfl
theorem RI_len0 (n : Nat) : (((NB 65536 n).length : Nat) : Int) = 0 ↔ n = 0 := by
  have := NB_len0 (b := 65536) (by omega) n
  omega
theorem ROf4_f (na : Bool) (a : List Int) (ha : WB 4294967296 a) (la : a.length < 1000000000) : Ev (fun k => zelligeref04_Of.f k na a) (RI (IVal na a)) := by
  unfold zelligeref04_Of.f
  refine Ev.bind (ROf_f a ha (by omega)) ?_
  have ea := IVal_abs na a
  refine Ev.congr (fun k => ?_) (Ev.now _)
  unfold RI
  rw [ea]
  by_cases h : VB 4294967296 a = 0
  · rw [if_pos ((RI_len0 _).2 h), h, NB_zero]
    have : IVal na a = 0 := by omega
    rw [this]
    rfl
  · rw [if_neg (fun e => h ((RI_len0 _).1 e))]
    cases na with
    | false =>
      rw [if_neg Bool.false_ne_true, Int.sign_eq_one_of_pos (by unfold IVal; rw [if_neg Bool.false_ne_true]; omega)]
    | true =>
      rw [if_pos rfl, Int.sign_eq_neg_one_of_neg (by unfold IVal; rw [if_pos rfl]; omega)]
theorem RMake_f (s : Int) (n : Nat) (hs : n ≠ 0 → s = 1 ∨ s = -1) : zelligeref04_make1.f s (NB 65536 n) = some (RI (s * n)) := by
  unfold zelligeref04_make1.f
  by_cases h : n = 0
  · rw [if_pos ((RI_len0 _).2 h), h, show s * ((0 : Nat) : Int) = 0 from Int.mul_zero _, RI_zero]
  · rw [if_neg (fun e => h ((RI_len0 _).1 e))]
    congr 1
    unfold RI
    rcases hs h with rfl | rfl
    · rw [Int.one_mul, Int.natAbs_natCast, Int.sign_eq_one_of_pos (by omega)]
    · rw [Int.neg_mul, Int.one_mul, Int.natAbs_neg, Int.natAbs_natCast, Int.sign_eq_neg_one_of_neg (by omega)]
theorem RNeg_f (z : Int) : zelligeref04_Neg.f (RI z).1 (RI z).2 = some (RI (-z)) := by
  unfold zelligeref04_Neg.f RI
  dsimp only
  rw [w_sign, Int.natAbs_neg]
theorem RLong_f (z : Int) (h0 : -9223372036854775808 ≤ z) (h1 : z < 9223372036854775808) : Ev (fun k => zelligeref04_Long.f k z) (RI z) := by
  unfold zelligeref04_Long.f
  by_cases hz : z = 0
  · subst hz
    rw [RI_zero]
    exact Ev.now _
  · have hW : WB 4294967296 [(z.natAbs : Int) % 4294967296, (z.natAbs : Int) / 4294967296 % 4294967296] := by
      intro x hx
      simp only [List.mem_cons, List.not_mem_nil, or_false] at hx
      omega
    have hv : VB 4294967296 [(z.natAbs : Int) % 4294967296, (z.natAbs : Int) / 4294967296 % 4294967296] = z.natAbs := by
      simp only [VB]
      omega
    have h3 := ROf_f _ hW (by simp)
    rw [hv] at h3
    rcases Int.lt_or_gt_of_ne hz with h | h
    · have e : IntKind.u64.wrap (-(IntKind.u64.wrap z)) = (z.natAbs : Int) := by
        rw [u64w, u64w]
        omega
      refine Ev.congr (fun k => ?c) (Ev.bind (f := ?F) h3 ?d)
      case c => rw [if_neg hz, if_pos h, e]
      case d =>
        unfold RI
        rw [Int.sign_eq_neg_one_of_neg h]
        exact Ev.now _
    · have e : IntKind.u64.wrap z = (z.natAbs : Int) := by
        rw [u64w]
        omega
      refine Ev.congr (fun k => ?c1) (Ev.bind (f := ?F1) h3 ?d1)
      case c1 => rw [if_neg hz, if_neg (by omega), e]
      case d1 =>
        unfold RI
        rw [Int.sign_eq_one_of_pos h]
        exact Ev.now _
theorem RAdd4_f (x y : Int) (j : Nat) (hx : Sz x j) (hy : Sz y j) (hj : j < 1000000000) : Ev (fun k => zelligeref04_Add.f k (RI x).1 (RI x).2 (RI y).1 (RI y).2) (RI (x + y)) := by
  unfold zelligeref04_Add.f
  have lx := (Sz_len hx).1
  have ly := (Sz_len hy).1
  unfold RI at lx ly ⊢
  dsimp only at lx ly ⊢
  by_cases hx0 : x = 0
  · subst hx0
    rw [Int.zero_add]
    exact Ev.now _
  · have sx : ¬ x.sign = 0 := fun e => hx0 (Int.sign_eq_zero_iff_zero.1 e)
    by_cases hy0 : y = 0
    · subst hy0
      rw [Int.add_zero]
      refine Ev.congr (fun k => ?_) (Ev.now _)
      rw [if_neg sx]
      rfl
    · have sy : ¬ y.sign = 0 := fun e => hy0 (Int.sign_eq_zero_iff_zero.1 e)
      by_cases hs : x.sign = y.sign
      · have ha := RAdd_f (NB 65536 x.natAbs) (NB 65536 y.natAbs) (WB_NB _ _) (WB_NB _ _) (by omega) (by omega)
        rw [VB_NB (by omega), VB_NB (by omega)] at ha
        have e1 : x.natAbs + y.natAbs = (x + y).natAbs ∧ (x + y).sign = x.sign := by
          rcases sign_cases x with h | h | h
          · rcases sign_cases y with h' | h' | h'
            · exact ⟨by omega, by rw [h.2]; exact Int.sign_eq_neg_one_of_neg (by omega)⟩
            · omega
            · omega
          · omega
          · rcases sign_cases y with h' | h' | h'
            · omega
            · omega
            · exact ⟨by omega, by rw [h.2]; exact Int.sign_eq_one_of_pos (by omega)⟩
        rw [e1.1] at ha
        refine Ev.congr (fun k => ?c) (Ev.bind (f := ?F) ha ?d)
        case c => rw [if_neg sx, if_neg sy, if_pos hs]
        case d =>
          rw [e1.2]
          exact Ev.now _
      · have hc := RCmp_f x.natAbs y.natAbs (by omega)
        by_cases hlt : x.natAbs < y.natAbs
        · have hce : cmpN x.natAbs y.natAbs = -1 := by unfold cmpN; rw [if_pos hlt]
          rw [hce] at hc
          have hsu := RSub_f y.natAbs x.natAbs (by omega) (by omega)
          have hm := RMake_f y.sign (y.natAbs - x.natAbs) (fun _ => by rcases sign_cases y with h | h | h <;> omega)
          have e1 : y.sign * ((y.natAbs - x.natAbs : Nat) : Int) = x + y := by
            rcases sign_cases y with h | h | h
            · rw [h.2]; rcases sign_cases x with h' | h' | h' <;> omega
            · omega
            · rw [h.2]; rcases sign_cases x with h' | h' | h' <;> omega
          rw [e1] at hm
          refine Ev.congr (fun k => ?c1) (Ev.bind (f := ?F1) hc ?d1)
          case c1 => rw [if_neg sx, if_neg sy, if_neg hs]
          case d1 =>
            refine Ev.congr (fun k => if_neg (by omega)) ?_
            refine Ev.bind hsu ?_
            rw [hm]
            exact Ev.now _
        · have hce : cmpN x.natAbs y.natAbs ≥ 0 := by unfold cmpN; rw [if_neg hlt]; split <;> omega
          have hsu := RSub_f x.natAbs y.natAbs (by omega) (by omega)
          have hm := RMake_f x.sign (x.natAbs - y.natAbs) (fun _ => by rcases sign_cases x with h | h | h <;> omega)
          have e1 : x.sign * ((x.natAbs - y.natAbs : Nat) : Int) = x + y := by
            rcases sign_cases x with h | h | h
            · rw [h.2]; rcases sign_cases y with h' | h' | h' <;> omega
            · omega
            · rw [h.2]; rcases sign_cases y with h' | h' | h' <;> omega
          rw [e1] at hm
          refine Ev.congr (fun k => ?c2) (Ev.bind (f := ?F2) hc ?d2)
          case c2 => rw [if_neg sx, if_neg sy, if_neg hs]
          case d2 =>
            refine Ev.congr (fun k => if_pos hce) ?_
            refine Ev.bind hsu ?_
            rw [hm]
            exact Ev.now _
theorem RSub4_f (x y : Int) (j : Nat) (hx : Sz x j) (hy : Sz y j) (hj : j < 1000000000) : Ev (fun k => zelligeref04_Sub.f k (RI x).1 (RI x).2 (RI y).1 (RI y).2) (RI (x - y)) := by
  unfold zelligeref04_Sub.f
  have h := RAdd4_f x (-y) j hx (Sz_neg hy) hj
  rw [← Int.sub_eq_add_neg] at h
  refine Ev.congr (fun k => ?_) h
  rw [RNeg_f, Option.bind_some, bind_pair]
theorem RMul4_f (x y : Int) (i j : Nat) (hx : Sz x i) (hy : Sz y j) (hi : i < 100000000) (hj : j < 100000000) : Ev (fun k => zelligeref04_Mul.f k (RI x).1 (RI x).2 (RI y).1 (RI y).2) (RI (x * y)) := by
  unfold zelligeref04_Mul.f
  have lx := (Sz_len hx).1
  have ly := (Sz_len hy).1
  have hm := RMul_f (RI x).2 (RI y).2 (WB_NB _ _) (WB_NB _ _) (by omega)
  rw [RI_VB, RI_VB, ← Int.natAbs_mul] at hm
  refine Ev.bind hm ?_
  have h2 := RMake_f (x * y).sign (x * y).natAbs (fun h => by rcases sign_cases (x * y) with h | h | h <;> omega)
  rw [Int.sign_mul_natAbs] at h2
  refine Ev.congr (fun k => ?_) (Ev.now _)
  rw [bind_pair]
  have e : (RI x).1 * (RI y).1 = x.sign * y.sign := rfl
  rw [e, w_sign_mul, h2]
theorem RCmp4_f (x y : Int) (j : Nat) (hx : Sz x j) (hy : Sz y j) (hj : j < 1000000000) : Ev (fun k => zelligeref04_Cmp.f k (RI x).1 (RI x).2 (RI y).1 (RI y).2) (cmpZ x y) := by
  unfold zelligeref04_Cmp.f
  rw [cmpZ_sign]
  exact Ev.bind (RSub4_f x y j hx hy hj) (Ev.now _)
end Go.Proofs.YtofklpmlgfbmlaaGreat.ZRatP
/- How many words a number needs. -/
namespace Go.Proofs.YtofklpmlgfbmlaaGreat.ZRatP
open Go.Proofs.YtofklpmlgfbmlaaGreat.Num
set_option linter.unusedVariables false
set_option linter.unusedSimpArgs false
class SzN (n : Nat) (m : outParam Nat) : Prop where
  lt : n < 4294967296 ^ m
class SzI (z : Int) (m : outParam Nat) : Prop where
  lt : z.natAbs < 4294967296 ^ m
class SzQ (q : Rat) (m : outParam Nat) : Prop where
  num : q.num.natAbs < 4294967296 ^ m
  den : q.den < 4294967296 ^ m
section
variable {a b i j : Nat} {x y : Int} {p q : Rat}
theorem pw_le {i j : Nat} (h : i ≤ j) : 4294967296 ^ i ≤ 4294967296 ^ j := Nat.pow_le_pow_right (by omega) h
theorem pw_pos (i : Nat) : 0 < 4294967296 ^ i := Nat.pow_pos (by omega)
theorem pw_two (i : Nat) : 4294967296 ^ i + 4294967296 ^ i ≤ 4294967296 ^ (i + 1) := pow_two_le i
theorem pw_big (i : Nat) : 4294967296 ≤ 4294967296 ^ (i + 1) := by have := pw_le (i := 1) (j := i + 1) (by omega); simpa using this
theorem pw_sum {a b i j : Nat} (h : a < 4294967296 ^ i) (k : b < 4294967296 ^ j) : a + b < 4294967296 ^ (i + j + 1) := by
  have h1 := pw_le (show i ≤ i + j by omega)
  have h2 := pw_le (show j ≤ i + j by omega)
  have h3 := pw_two (i + j)
  generalize 4294967296 ^ (i + j + 1) = t at *
  generalize 4294967296 ^ (i + j) = s at *
  omega
theorem pw_prod {a b i j : Nat} (h : a < 4294967296 ^ i) (k : b < 4294967296 ^ j) : a * b < 4294967296 ^ (i + j) := by
  rw [Nat.pow_add]; exact Nat.mul_lt_mul'' h k
theorem SzN.up {n m m' : Nat} (h : SzN n m) (hm : m ≤ m') : n < 4294967296 ^ m' := Nat.lt_of_lt_of_le h.lt (pw_le hm)
instance : SzN 0 0 := ⟨by decide⟩
instance : SzN 1 1 := ⟨by decide⟩
instance : SzN 2 1 := ⟨by decide⟩
instance : SzN 3 1 := ⟨by decide⟩
instance : SzN 4 1 := ⟨by decide⟩
instance [SzN a i] [SzN b j] : SzN (a + b) (i + j + 1) := ⟨pw_sum SzN.lt SzN.lt⟩
instance [SzN a i] [SzN b j] : SzN (a * b) (i + j) := ⟨pw_prod SzN.lt SzN.lt⟩
instance [h : SzN a i] : SzN (a / b) i := ⟨Nat.lt_of_le_of_lt (Nat.div_le_self _ _) h.lt⟩
instance [h : SzN a i] : SzN (a % b) i := ⟨Nat.lt_of_le_of_lt (Nat.mod_le _ _) h.lt⟩
instance [h : SzN a i] : SzN (a - b) i := ⟨Nat.lt_of_le_of_lt (Nat.sub_le _ _) h.lt⟩
instance [h : SzN a i] [k : SzN b j] : SzN (Nat.gcd a b) (i + j + 1) := ⟨by
  refine Nat.lt_of_le_of_lt ?_ (pw_sum h.lt k.lt)
  rcases Nat.eq_zero_or_pos a with h0 | h0
  · subst h0; simp
  · exact Nat.le_trans (Nat.gcd_le_left b h0) (Nat.le_add_right _ _)⟩
instance [h : SzI x i] : SzN x.natAbs i := ⟨h.lt⟩
instance [h : SzI x i] : SzN x.toNat i := ⟨Nat.lt_of_le_of_lt (by omega) h.lt⟩
instance [h : SzN a i] : SzI (a : Int) i := ⟨by simpa using h.lt⟩
instance : SzI 0 0 := ⟨by decide⟩
instance : SzI 1 1 := ⟨by decide⟩
instance : SzI 2 1 := ⟨by decide⟩
instance : SzI 3 1 := ⟨by decide⟩
instance : SzI 4 1 := ⟨by decide⟩
instance [h : SzI x i] [k : SzI y j] : SzI (x + y) (i + j + 1) := ⟨Nat.lt_of_le_of_lt (Int.natAbs_add_le x y) (pw_sum h.lt k.lt)⟩
instance [h : SzI x i] [k : SzI y j] : SzI (x - y) (i + j + 1) := ⟨Nat.lt_of_le_of_lt (by omega) (pw_sum h.lt k.lt)⟩
instance [h : SzI x i] [k : SzI y j] : SzI (x * y) (i + j) := ⟨by rw [Int.natAbs_mul]; exact pw_prod h.lt k.lt⟩
instance [h : SzI x i] : SzI (-x) i := ⟨by rw [Int.natAbs_neg]; exact h.lt⟩
instance {c : Prop} [Decidable c] [h : SzI x i] [k : SzI y j] : SzI (if c then x else y) (i + j) := ⟨by
  split
  · exact Nat.lt_of_lt_of_le h.lt (pw_le (by omega))
  · exact Nat.lt_of_lt_of_le k.lt (pw_le (by omega))⟩
instance : SzI x.sign 1 := ⟨by
  have : x.sign.natAbs ≤ 1 := by rcases Int.lt_trichotomy x 0 with h | h | h <;> simp [h, Int.sign_eq_one_of_pos, Int.sign_eq_neg_one_of_neg]
  omega⟩
theorem ediv_abs (x : Int) (b : Nat) : (x / (b : Int)).natAbs ≤ x.natAbs := Int.natAbs_ediv_le_natAbs x b
instance [h : SzI x i] : SzI (x / (b : Int)) i := ⟨Nat.lt_of_le_of_lt (ediv_abs x b) h.lt⟩
instance [h : SzI x i] : SzI (x.fdiv y) (i + 1) := ⟨by
  have h1 : (x.fdiv y).natAbs ≤ x.natAbs + 1 := by
    rw [Int.fdiv_eq_ediv]
    have := Int.natAbs_ediv_le_natAbs x y
    split <;> omega
  have h2 := pw_sum (i := i) (j := 0) h.lt (by decide : (0 : Nat) < 4294967296 ^ 0)
  have h3 := pw_two i
  have h4 := h.lt
  have h5 := pw_pos i
  generalize 4294967296 ^ (i + 1) = t at *
  generalize 4294967296 ^ i = s at *
  omega⟩
theorem num_mk (n : Int) (d : Nat) : (mkRat n d).num.natAbs ≤ n.natAbs := by
  rw [Rat.num_mkRat]
  split
  · simp
  · exact Int.natAbs_ediv_le_natAbs n _
theorem den_mk (n : Int) (d : Nat) : (mkRat n d).den ≤ d + 1 := by
  rw [Rat.den_mkRat]
  split
  · omega
  · exact Nat.le_trans (Nat.div_le_self _ _) (Nat.le_succ _)
theorem SzQ.mk' {n : Int} {d m : Nat} (h1 : n.natAbs < 4294967296 ^ m) (h2 : d < 4294967296 ^ m) (hd : d ≠ 0) : SzQ (mkRat n d) m := by
  refine ⟨Nat.lt_of_le_of_lt (num_mk n d) h1, ?_⟩
  rw [Rat.den_mkRat, if_neg hd]
  exact Nat.lt_of_le_of_lt (Nat.div_le_self _ _) h2
instance [h : SzI x i] [k : SzN b j] : SzQ (mkRat x b) (i + j + 1) := ⟨Nat.lt_of_le_of_lt (num_mk x b) (Nat.lt_of_lt_of_le h.lt (pw_le (by omega))), by
  have h1 := den_mk x b
  have h2 := pw_sum (a := 0) (i := i) (pw_pos i) k.lt
  have h3 := pw_le (show 1 ≤ i + j + 1 by omega)
  have h4 := pw_two (i + j)
  have h5 := Nat.lt_of_lt_of_le k.lt (pw_le (show j ≤ i + j by omega))
  have h6 := pw_pos (i + j)
  generalize 4294967296 ^ (i + j + 1) = t at *
  generalize 4294967296 ^ (i + j) = s at *
  omega⟩
instance [h : SzQ q i] : SzI q.num i := ⟨h.num⟩
instance [h : SzQ q i] : SzN q.den i := ⟨h.den⟩
instance [h : SzQ p i] [k : SzQ q j] : SzQ (p + q) (i + j + 1) := by
  rw [Rat.add_def']
  refine SzQ.mk' ?_ (Nat.lt_of_lt_of_le (pw_prod h.den k.den) (pw_le (by omega))) (Nat.mul_ne_zero p.den_nz q.den_nz)
  have h1 : (p.num * q.den).natAbs < 4294967296 ^ (i + j) := by rw [Int.natAbs_mul]; exact pw_prod h.num (by simpa using k.den)
  have h2 : (q.num * p.den).natAbs < 4294967296 ^ (i + j) := by rw [Int.natAbs_mul, Nat.add_comm]; exact pw_prod k.num (by simpa using h.den)
  have h3 := Int.natAbs_add_le (p.num * q.den) (q.num * p.den)
  have h4 := pw_two (i + j)
  generalize 4294967296 ^ (i + j + 1) = t at *
  generalize 4294967296 ^ (i + j) = s at *
  omega
instance [h : SzQ p i] [k : SzQ q j] : SzQ (p - q) (i + j + 1) := by
  rw [Rat.sub_def']
  refine SzQ.mk' ?_ (Nat.lt_of_lt_of_le (pw_prod h.den k.den) (pw_le (by omega))) (Nat.mul_ne_zero p.den_nz q.den_nz)
  have h1 : (p.num * q.den).natAbs < 4294967296 ^ (i + j) := by rw [Int.natAbs_mul]; exact pw_prod h.num (by simpa using k.den)
  have h2 : (q.num * p.den).natAbs < 4294967296 ^ (i + j) := by rw [Int.natAbs_mul, Nat.add_comm]; exact pw_prod k.num (by simpa using h.den)
  have h4 := pw_two (i + j)
  generalize 4294967296 ^ (i + j + 1) = t at *
  generalize 4294967296 ^ (i + j) = s at *
  omega
instance [h : SzQ p i] [k : SzQ q j] : SzQ (p * q) (i + j) := by
  rw [Rat.mul_def']
  exact SzQ.mk' (by rw [Int.natAbs_mul]; exact pw_prod h.num k.num) (pw_prod h.den k.den) (Nat.mul_ne_zero p.den_nz q.den_nz)
instance [h : SzQ p i] : SzQ (-p) i := ⟨by rw [Rat.neg_num, Int.natAbs_neg]; exact h.num, by rw [Rat.neg_den]; exact h.den⟩
instance [h : SzQ p i] : SzQ p⁻¹ i := by
  refine ⟨?_, ?_⟩
  · rw [Rat.num_inv, Int.natAbs_mul]
    refine Nat.lt_of_le_of_lt ?_ h.den
    have : p.num.sign.natAbs ≤ 1 := by rcases Int.lt_trichotomy p.num 0 with h | h | h <;> simp [h, Int.sign_eq_one_of_pos, Int.sign_eq_neg_one_of_neg]
    calc p.num.sign.natAbs * ((p.den : Int)).natAbs ≤ 1 * p.den := Nat.mul_le_mul this (by simp)
      _ = p.den := Nat.one_mul _
  · rw [Rat.den_inv]
    split
    · exact Nat.lt_of_le_of_lt p.den_pos h.den
    · exact h.num
instance [SzQ p i] [SzQ q j] : SzQ (p / q) (i + j) := by rw [Rat.div_def]; exact inferInstance
instance [h : SzI x i] : SzQ (x : Rat) (i + 1) := ⟨Nat.lt_of_lt_of_le h.lt (pw_le (by omega)), by rw [Rat.den_intCast]; exact Nat.lt_of_lt_of_le (by decide) (pw_big i)⟩
instance : SzQ 0 1 := ⟨by decide, by decide⟩
instance : SzQ 1 1 := ⟨by decide, by decide⟩
instance [h : SzQ p i] : SzI p.floor i := ⟨by rw [Rat.floor_def]; exact Nat.lt_of_le_of_lt (ediv_abs _ _) h.num⟩
theorem NBlen {n m L : Nat} [h : SzN n m] (hm : m ≤ L) : ((NB 4294967296 n).length ≤ L) = True := by
  simp only [eq_iff_iff, iff_true]; exact Nat.le_trans (NB_length_le (by omega) n m h.lt) hm
theorem NBlen16 {n m L : Nat} [h : SzN n m] (hm : 2 * m ≤ L) : ((NB 65536 n).length ≤ L) = True := by
  simp only [eq_iff_iff, iff_true]; exact Nat.le_trans (len16s n m h.lt).1 hm
theorem SzI.up {z : Int} {m m' : Nat} (h : SzI z m) (hm : m ≤ m') : SzI z m' := ⟨Nat.lt_of_lt_of_le h.lt (pw_le hm)⟩
theorem SzQ.up {z : Rat} {m m' : Nat} (h : SzQ z m) (hm : m ≤ m') : SzQ z m' := ⟨Nat.lt_of_lt_of_le h.num (pw_le hm), Nat.lt_of_lt_of_le h.den (pw_le hm)⟩
theorem SzI.sz {z : Int} {m : Nat} (h : SzI z m) : Sz z m := h.lt
theorem SzI.val {neg : Bool} {l : List Int} {j : Nat} (h : WB 4294967296 l) (hl : l.length ≤ j) : SzI (IVal neg l) j := ⟨Sz_val h hl⟩
theorem SzN.val {l : List Int} {j : Nat} (h : WB 4294967296 l) (hl : l.length ≤ j) : SzN (VB 4294967296 l) j := ⟨Nat.lt_of_lt_of_le (VB_lt (by omega) h) (Nat.pow_le_pow_right (by omega) hl)⟩
end
end Go.Proofs.YtofklpmlgfbmlaaGreat.ZRatP
