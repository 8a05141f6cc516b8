/- What the printed functions of nat come to, told of numbers: the reference's order, sum and difference. -/
import Derived.Test.YtafhcchjjlbojaaNum
import Derived.Test.YtafhcchjjlbojaaRefA
import Derived.Test.YtafhcchjjlbojaaZNatgRAdd
import Derived.Test.YtafhcchjjlbojaaZNatgRTrim
namespace Go.Proofs.Ytafhcchjjlbojaa.ZNatP
open Go.RowKit Go.Proofs.YtafhcchjjlbojaaW.PrintWords Go.Proofs.YtafhcchjjlbojaaW.PrintLast Go.Proofs.YtafhcchjjlbojaaW.PrintMore Go.Proofs.Ytafhcchjjlbojaa.Num Go.Proofs.Ytafhcchjjlbojaa.ZNat
set_option linter.unusedVariables false
set_option linter.unusedSimpArgs false

/-- cmp's loop: the digits from i - 1 down. -/
theorem RCmp_l0 (a b : List Int) (hl : a.length = b.length) (ha : WB 65536 a) (hb : WB 65536 b) (hn : a.length < 4611686018427387904) : ∀ (i : Nat), i ≤ a.length →
    VB 65536 (a.drop i) = VB 65536 (b.drop i) →
    Ev (fun k => zelligeref03_Cmp.l0 k a b ((i : Int) - 1)) (if VB 65536 a < VB 65536 b then -1 else if VB 65536 b < VB 65536 a then 1 else 0) := by
  intro i
  induction i with
  | zero =>
    intro hi he
    refine Ev.step (f := fun _ => some 0) (fun k => ?_) ?_
    · show zelligeref03_Cmp.l0 (k + 1) a b _ = _
      simp only [zelligeref03_Cmp.l0]
      rw [if_neg (by omega)]
    · simp only [List.drop_zero] at he
      rw [he, if_neg (by omega), if_neg (by omega)]
      exact Ev.now _
  | succ i ih =>
    intro hi he
    have ea := VB_split 65536 a i (by omega)
    have eb := VB_split 65536 b i (by omega)
    have da := VB_drop_rd 65536 a i (by omega)
    have db := VB_drop_rd 65536 b i (by omega)
    have ra := WB_rd ha i (by omega)
    have rb := WB_rd hb i (by omega)
    have la := VB_lt (by omega) (WB_take ha i)
    have lb := VB_lt (by omega) (WB_take hb i)
    have lta : (a.take i).length = i := by rw [List.length_take]; omega
    have ltb : (b.take i).length = i := by rw [List.length_take]; omega
    rw [lta] at la
    rw [ltb] at lb
    have e1 : ((i + 1 : Nat) : Int) - 1 = (i : Int) := by omega
    have e2 : wrap64 ((i : Int) - 1) = (i : Int) - 1 := w64in _ (by omega) (by omega)
    rcases Int.lt_trichotomy (rd a (i : Int)) (rd b (i : Int)) with h | h | h
    · refine Ev.step (f := fun _ => some (-1)) (fun k => ?_) ?_
      · show zelligeref03_Cmp.l0 (k + 1) a b _ = _
        simp only [zelligeref03_Cmp.l0]
        rw [e1, if_pos (by omega), if_pos (by omega), if_pos (by omega), if_pos (by omega), if_pos h]
      · have h1 : VB 65536 (a.drop i) + 1 ≤ VB 65536 (b.drop i) := by rw [da, db, he]; omega
        have h2 := Nat.mul_le_mul_left (65536 ^ i) h1
        rw [if_pos (by rw [ea, eb]; rw [Nat.mul_add] at h2; omega)]
        exact Ev.now _
    · refine Ev.step (f := fun k => zelligeref03_Cmp.l0 k a b ((i : Int) - 1)) (fun k => ?_) ?_
      · show zelligeref03_Cmp.l0 (k + 1) a b _ = _
        simp only [zelligeref03_Cmp.l0]
        rw [e1, if_pos (by omega), if_pos (by omega), if_pos (by omega), if_pos (by omega), if_neg (by omega), if_neg (by omega), e2]
      · exact ih (by omega) (by rw [da, db, he, h])
    · refine Ev.step (f := fun _ => some 1) (fun k => ?_) ?_
      · show zelligeref03_Cmp.l0 (k + 1) a b _ = _
        simp only [zelligeref03_Cmp.l0]
        rw [e1, if_pos (by omega), if_pos (by omega), if_pos (by omega), if_pos (by omega), if_neg (by omega), if_pos h]
      · have h1 : VB 65536 (b.drop i) + 1 ≤ VB 65536 (a.drop i) := by rw [da, db, he]; omega
        have h2 := Nat.mul_le_mul_left (65536 ^ i) h1
        rw [Nat.mul_add] at h2
        rw [if_neg (by rw [ea, eb]; omega), if_pos (by rw [ea, eb]; omega)]
        exact Ev.now _
theorem RCmp_f (m n : Nat) (lm : (NB 65536 m).length < 4611686018427387904) : Ev (fun k => zelligeref03_Cmp.f k (NB 65536 m) (NB 65536 n)) (cmpN m n) := by
  unfold zelligeref03_Cmp.f cmpN
  by_cases h1 : (NB 65536 m).length < (NB 65536 n).length
  · have h : m < n := by
      rcases Nat.lt_or_ge m n with h | h
      · exact h
      · have := NB_length_mono (b := 65536) (by omega) h
        omega
    rw [if_pos h]
    refine Ev.congr (fun k => ?_) (Ev.now _)
    rw [if_pos (by omega)]
  by_cases h2 : (NB 65536 n).length < (NB 65536 m).length
  · have h : n < m := by
      rcases Nat.lt_or_ge n m with h | h
      · exact h
      · have := NB_length_mono (b := 65536) (by omega) h
        omega
    rw [if_neg (by omega), if_pos h]
    refine Ev.congr (fun k => ?_) (Ev.now _)
    rw [if_neg (by omega), if_pos (by omega)]
  have hl : (NB 65536 m).length = (NB 65536 n).length := by omega
  have h3 := RCmp_l0 (NB 65536 m) (NB 65536 n) hl (WB_NB _ _) (WB_NB _ _) lm _ (Nat.le_refl _) (by rw [List.drop_of_length_le (Nat.le_refl _), List.drop_of_length_le (by omega)])
  rw [VB_NB (by omega), VB_NB (by omega)] at h3
  refine Ev.congr (fun k => ?_) h3
  rw [if_neg (by omega), if_neg (by omega), wpred _ (by omega)]
theorem r16 (n : Nat) (h : n < 4611686018427387904) : Int.tmod (wrap64 (n : Int)) 65536 = ((n % 65536 : Nat) : Int) ∧ wrap64 (Int.tdiv (wrap64 (n : Int)) 65536) = ((n / 65536 : Nat) : Int) := by
  have e := w64in (n : Int) (by omega) (by omega)
  rw [e, nmod16, ndiv16]
  clear e
  exact ⟨rfl, w64in _ (by omega) (by omega)⟩
theorem RAdd_l0 (a b : List Int) (ha : WB 65536 a) (hb : WB 65536 b) (N : Nat) (la : a.length ≤ N) (lb : b.length ≤ N) (hN : a.length = N ∨ b.length = N) (hb2 : N < 17592186044415) : ∀ (d i : Nat) (out : List Int) (c : Nat), N - i = d → i ≤ N → out.length = i → WB 65536 out → c ≤ 1 →
    Aside0 (VB 65536 out + 65536 ^ i * c = VB 65536 (a.take i) + VB 65536 (b.take i)) →
    Ev (fun k => zelligeref03_Add.l0 k a b out (c : Int) (i : Int)) (NB 65536 (VB 65536 a + VB 65536 b)) := by
  intro d
  induction d with
  | zero =>
    intro i out c hd hi ho hW hc he
    have hi' : i = N := by omega
    subst hi'
    have he := he.out
    rw [List.take_of_length_le la, List.take_of_length_le lb] at he
    have h1 := RTrim_f (out ++ [(c : Int)]) (WB_append.2 ⟨hW, WB_cons.2 ⟨by omega, WB_nil _⟩⟩) (by simp; omega)
    rw [VB_snoc, ho, Int.toNat_natCast, he] at h1
    refine Ev.step (f := fun k => zelligeref03_Add.j1 k a b out (c : Int) (i : Int) false) (fun k => ?_) ?_
    · show zelligeref03_Add.l0 (k + 1) a b out (c : Int) (i : Int) = _
      simp only [zelligeref03_Add.l0]
      rw [if_neg (by omega), decide_eq_false (by omega)]
    · refine Ev.step (fun k => ?c) (Ev.bind (f := ?F) h1 ?d)
      case c =>
        show zelligeref03_Add.j1 (k + 1) a b out (c : Int) (i : Int) false = _
        simp only [zelligeref03_Add.j1]
        rw [if_neg Bool.false_ne_true, if_pos (by omega)]
      case d => exact Ev.now _
  | succ d ih =>
    intro i out c hd hi ho hW hc he
    have TA := Aside0.mk (take_all_rd 65536 a i)
    have TB := Aside0.mk (take_all_rd 65536 b i)
    have E2 := Aside0.mk (wsucc i (by omega))
    -- a step with the sum s
    have go : ∀ x y : Nat, x < 65536 → y < 65536 → (if i < a.length then (rd a (i : Int)).toNat else 0) = x → (if i < b.length then (rd b (i : Int)).toNat else 0) = y →
        Ev (fun k => zelligeref03_Add.l0 k a b (out ++ [(((c + x + y) % 65536 : Nat) : Int)]) (((c + x + y) / 65536 : Nat) : Int) ((i + 1 : Nat) : Int)) (NB 65536 (VB 65536 a + VB 65536 b)) := by
      intro x y hx hy ex ey
      refine ih (i + 1) _ _ (by omega) (by omega) (by simp [ho]) (WB_append.2 ⟨hW, WB_cons.2 ⟨by omega, WB_nil _⟩⟩) (by omega) ⟨?_⟩
      have ta := TA.out
      have tb := TB.out
      rw [ex] at ta
      rw [ey] at tb
      rw [VB_snoc, ho, Int.toNat_natCast, carry_step, ta, tb, Nat.mul_add, Nat.mul_add]
      have := he.out
      omega
    have j1 : ∀ k, zelligeref03_Add.l0 (k + 1) a b out (c : Int) (i : Int) = zelligeref03_Add.j1 k a b out (c : Int) (i : Int) true := by
      intro k
      simp only [zelligeref03_Add.l0]
      by_cases h : (i : Int) < (a.length : Int)
      · rw [if_pos h]
      · rw [if_neg h, decide_eq_true (by omega)]
    refine Ev.step j1 ?_
    by_cases h1 : i < a.length
    · have r := WB_rd ha i h1
      obtain ⟨x, hx⟩ := Int.eq_ofNat_of_zero_le r.1
      rw [hx] at r
      by_cases h2 : i < b.length
      · have q := WB_rd hb i h2
        obtain ⟨y, hy⟩ := Int.eq_ofNat_of_zero_le q.1
        rw [hy] at q
        refine Ev.step (fun k => ?_) (go x y (by omega) (by omega) (by rw [if_pos h1, hx]; rfl) (by rw [if_pos h2, hy]; rfl))
        show zelligeref03_Add.j1 (k + 1) a b out (c : Int) (i : Int) true = _
        obtain ⟨e1, e2⟩ := r16 (c + x + y) (by omega)
        have E1 := Aside0.mk e1
        have E3 := Aside0.mk e2
        clear e1 e2
        have E4 : Aside0 (wrap64 ((c : Int) + (x : Int)) = (c : Int) + (x : Int)) := ⟨w64in _ (by omega) (by omega)⟩
        simp only [zelligeref03_Add.j1]
        rw [if_pos trivial, if_pos (by omega), if_pos (by omega), if_pos (by omega), if_pos (by omega), hx, hy, E4.out, show (c : Int) + (x : Int) + (y : Int) = ((c + x + y : Nat) : Int) from by omega, E1.out, E3.out, E2.out]
      · refine Ev.step (fun k => ?_) (go x 0 (by omega) (by omega) (by rw [if_pos h1, hx]; rfl) (by rw [if_neg h2]))
        show zelligeref03_Add.j1 (k + 1) a b out (c : Int) (i : Int) true = _
        obtain ⟨e1, e2⟩ := r16 (c + x + 0) (by omega)
        have E1 := Aside0.mk e1
        have E3 := Aside0.mk e2
        clear e1 e2
        simp only [zelligeref03_Add.j1]
        rw [if_pos trivial, if_pos (by omega), if_pos (by omega), if_neg (by omega), if_pos (by omega), hx, show (c : Int) + (x : Int) = ((c + x + 0 : Nat) : Int) from by omega, E1.out, E3.out, E2.out]
    · have h2 : i < b.length := by omega
      have q := WB_rd hb i h2
      obtain ⟨y, hy⟩ := Int.eq_ofNat_of_zero_le q.1
      rw [hy] at q
      refine Ev.step (fun k => ?_) (go 0 y (by omega) (by omega) (by rw [if_neg h1]) (by rw [if_pos h2, hy]; rfl))
      show zelligeref03_Add.j1 (k + 1) a b out (c : Int) (i : Int) true = _
      obtain ⟨e1, e2⟩ := r16 (c + 0 + y) (by omega)
      have E1 := Aside0.mk e1
      have E3 := Aside0.mk e2
      clear e1 e2
      simp only [zelligeref03_Add.j1]
      rw [if_pos trivial, if_neg (by omega), if_pos (by omega), if_pos (by omega), if_pos (by omega), hy, show (c : Int) + (y : Int) = ((c + 0 + y : Nat) : Int) from by omega, E1.out, E3.out, E2.out]
theorem RAdd_f (a b : List Int) (ha : WB 65536 a) (hb : WB 65536 b) (la : a.length < 17592186044415) (lb : b.length < 17592186044415) : Ev (fun k => zelligeref03_Add.f k a b) (NB 65536 (VB 65536 a + VB 65536 b)) := by
  rcases Nat.le_total a.length b.length with h | h
  · exact RAdd_l0 a b ha hb b.length h (Nat.le_refl _) (.inr rfl) lb _ 0 [] 0 rfl (by omega) rfl (WB_nil _) (by omega) ⟨by simp [VB]⟩
  · exact RAdd_l0 a b ha hb a.length (Nat.le_refl _) h (.inl rfl) la _ 0 [] 0 rfl (by omega) rfl (WB_nil _) (by omega) ⟨by simp [VB]⟩
end Go.Proofs.Ytafhcchjjlbojaa.ZNatP
