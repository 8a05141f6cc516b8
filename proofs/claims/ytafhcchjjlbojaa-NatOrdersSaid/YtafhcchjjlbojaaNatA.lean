/- What the printed functions of nat come to, told of numbers: trim, cmp, Of, Trim, add, sub. -/
import Derived.Test.YtafhcchjjlbojaaNum
import Derived.Test.YtafhcchjjlbojaaZNatgCore
namespace Go.Proofs.Ytafhcchjjlbojaa.ZNatP
open Go.RowKit Go.Proofs.YtafhcchjjlbojaaW.PrintWords Go.Proofs.YtafhcchjjlbojaaW.PrintLast Go.Proofs.YtafhcchjjlbojaaW.PrintMore Go.Proofs.Ytafhcchjjlbojaa.Num Go.Proofs.Ytafhcchjjlbojaa.ZNat
set_option linter.unusedVariables false
set_option linter.unusedSimpArgs false

theorem trim_l0 : ∀ (n : Nat) (l : List Int), l.length = n → WB 4294967296 l → n < 4611686018427387904 → Ev (fun k => nat_trim.l0 k l) (NB 4294967296 (VB 4294967296 l)) := by
  intro n
  induction n with
  | zero =>
    intro l hl hW hb
    obtain rfl := List.length_eq_zero_iff.1 hl
    refine Ev.step (f := fun _ => some []) (fun k => ?_) ?_
    · show nat_trim.l0 (k + 1) [] = _
      simp [nat_trim.l0]
    · simp only [VB, NB_zero]
      exact Ev.now _
  | succ n ih =>
    intro l hl hW hb
    rcases List.eq_nil_or_concat l with rfl | ⟨m, x, rfl⟩
    · simp at hl
    rw [List.concat_eq_append] at *
    have hm : m.length = n := by simpa using hl
    have hw : wrap64 (((m ++ [x]).length : Int) - 1) = (n : Int) := by rw [hl, w64in _ (by omega) (by omega)]; omega
    have hr : rd (m ++ [x]) (n : Int) = x := by
      rw [rd_nat, ← hm]
      simp
    have ht : (m ++ [x]).take n = m := by rw [← hm]; simp
    obtain ⟨hWm, hWx⟩ := WB_append.1 hW
    by_cases hx : x = 0
    · refine Ev.step (f := fun k => nat_trim.l0 k m) (fun k => ?_) ?_
      · show nat_trim.l0 (k + 1) (m ++ [x]) = _
        simp only [nat_trim.l0]
        rw [hw, hr, if_pos (by omega), if_pos (by omega), if_pos (by omega), if_pos hx, if_pos (by omega), Int.toNat_natCast, ht]
      · have e : VB 4294967296 (m ++ [x]) = VB 4294967296 m := by rw [VB_snoc, hx]; simp
        rw [e]
        exact ih m hm hWm (by omega)
    · refine Ev.step (f := fun _ => some (m ++ [x])) (fun k => ?_) ?_
      · show nat_trim.l0 (k + 1) (m ++ [x]) = _
        simp only [nat_trim.l0]
        rw [hw, hr, if_pos (by omega), if_pos (by omega), if_pos (by omega), if_neg hx]
      · rw [NB_canon (by omega) _ hW (fun m' y e => by
          have := List.append_inj' e rfl
          have h2 : x = y := by simpa using this.2
          rw [← h2]; exact hx)]
        exact Ev.now _
theorem trim_own_l0 : ∀ (k : Nat) (l : List Int), nat_trim_own.l0 k l = nat_trim.l0 k l := by
  intro k
  induction k with
  | zero => intro l; rfl
  | succ k ih =>
    intro l
    simp only [nat_trim_own.l0, nat_trim.l0, ih]
theorem trim_f (l : List Int) (hW : WB 4294967296 l) (hl : l.length < 4611686018427387904) : Ev (fun k => nat_trim.f k l) (NB 4294967296 (VB 4294967296 l)) :=
  trim_l0 _ l rfl hW hl
theorem trim_own_f (l : List Int) (hW : WB 4294967296 l) (hl : l.length < 4611686018427387904) : Ev (fun k => nat_trim_own.f k l) (NB 4294967296 (VB 4294967296 l)) :=
  (trim_l0 _ l rfl hW hl).congr (fun k => trim_own_l0 k l) |> fun h => by
    obtain ⟨K, h⟩ := trim_l0 _ l rfl hW hl
    exact ⟨K, fun k hk => (trim_own_l0 k l).trans (h k hk)⟩
theorem clone_f (l : List Int) (hl : l.length < 35184372088832) : api_Nat_uint32.f l = some l := by unfold api_Nat_uint32.f; rw [if_pos hl]

/-- cmp's loop: the digits from i - 1 down. -/
theorem cmp_l0 (a b : List Int) (hl : a.length = b.length) (ha : WB 4294967296 a) (hb : WB 4294967296 b) (hn : a.length < 4611686018427387904) : ∀ (i : Nat), i ≤ a.length →
    VB 4294967296 (a.drop i) = VB 4294967296 (b.drop i) →
    Ev (fun k => nat_cmp.l0 k a b ((i : Int) - 1)) (if VB 4294967296 a < VB 4294967296 b then -1 else if VB 4294967296 b < VB 4294967296 a then 1 else 0) := by
  intro i
  induction i with
  | zero =>
    intro hi he
    refine Ev.step (f := fun _ => some 0) (fun k => ?_) ?_
    · show nat_cmp.l0 (k + 1) a b _ = _
      simp only [nat_cmp.l0]
      rw [if_neg (by omega)]
    · simp only [List.drop_zero] at he
      rw [he, if_neg (by omega), if_neg (by omega)]
      exact Ev.now _
  | succ i ih =>
    intro hi he
    have ea := VB_split 4294967296 a i (by omega)
    have eb := VB_split 4294967296 b i (by omega)
    have da := VB_drop_rd 4294967296 a i (by omega)
    have db := VB_drop_rd 4294967296 b i (by omega)
    have ra := WB_rd ha i (by omega)
    have rb := WB_rd hb i (by omega)
    have la := VB_lt (by omega) (WB_take ha i)
    have lb := VB_lt (by omega) (WB_take hb i)
    have lta : (a.take i).length = i := by rw [List.length_take]; omega
    have ltb : (b.take i).length = i := by rw [List.length_take]; omega
    rw [lta] at la
    rw [ltb] at lb
    have e1 : ((i + 1 : Nat) : Int) - 1 = (i : Int) := by omega
    have e2 : wrap64 ((i : Int) - 1) = (i : Int) - 1 := w64in _ (by omega) (by omega)
    rcases Int.lt_trichotomy (rd a (i : Int)) (rd b (i : Int)) with h | h | h
    · refine Ev.step (f := fun _ => some (-1)) (fun k => ?_) ?_
      · show nat_cmp.l0 (k + 1) a b _ = _
        simp only [nat_cmp.l0]
        rw [e1, if_pos (by omega), if_pos (by omega), if_pos (by omega), if_pos (by omega), if_pos h]
      · have h1 : VB 4294967296 (a.drop i) + 1 ≤ VB 4294967296 (b.drop i) := by rw [da, db, he]; omega
        have h2 := Nat.mul_le_mul_left (4294967296 ^ i) h1
        rw [if_pos (by rw [ea, eb]; rw [Nat.mul_add] at h2; omega)]
        exact Ev.now _
    · refine Ev.step (f := fun k => nat_cmp.l0 k a b ((i : Int) - 1)) (fun k => ?_) ?_
      · show nat_cmp.l0 (k + 1) a b _ = _
        simp only [nat_cmp.l0]
        rw [e1, if_pos (by omega), if_pos (by omega), if_pos (by omega), if_pos (by omega), if_neg (by omega), if_neg (by omega), e2]
      · exact ih (by omega) (by rw [da, db, he, h])
    · refine Ev.step (f := fun _ => some 1) (fun k => ?_) ?_
      · show nat_cmp.l0 (k + 1) a b _ = _
        simp only [nat_cmp.l0]
        rw [e1, if_pos (by omega), if_pos (by omega), if_pos (by omega), if_pos (by omega), if_neg (by omega), if_pos h]
      · have h1 : VB 4294967296 (b.drop i) + 1 ≤ VB 4294967296 (a.drop i) := by rw [da, db, he]; omega
        have h2 := Nat.mul_le_mul_left (4294967296 ^ i) h1
        rw [Nat.mul_add] at h2
        rw [if_neg (by rw [ea, eb]; omega), if_pos (by rw [ea, eb]; omega)]
        exact Ev.now _
theorem cmp_f (a b : List Int) (ha : WB 4294967296 a) (hb : WB 4294967296 b) (la : a.length < 35184372088832) (lb : b.length < 35184372088832) :
    Ev (fun k => nat_cmp.f k a b) (cmpN (VB 4294967296 a) (VB 4294967296 b)) := by
  unfold nat_cmp.f
  refine Ev.bind (trim_f a ha (by omega)) ?_
  refine Ev.bind (trim_f b hb (by omega)) ?_
  have hla := NBV_len (by omega) ha
  generalize VB 4294967296 a = m at *
  generalize hn : VB 4294967296 b = n at *
  unfold cmpN
  by_cases h : (NB 4294967296 m).length = (NB 4294967296 n).length
  · have hl : (NB 4294967296 m).length < 4611686018427387904 := by omega
    have := cmp_l0 _ _ h (WB_NB _ m) (WB_NB _ n) hl _ (Nat.le_refl _) (by rw [List.drop_length, h, List.drop_length])
    rw [VB_NB (by omega), VB_NB (by omega)] at this
    refine Ev.congr (fun k => ?_) this
    rw [if_pos (by omega), w64in _ (by omega) (by omega)]
  · rcases Nat.lt_or_ge m n with h1 | h1
    · have h2 := NB_length_mono (b := 4294967296) (by omega) (Nat.le_of_lt h1)
      rw [if_pos h1]
      refine Ev.congr (fun k => ?_) (Ev.now _)
      rw [if_neg (by omega), if_pos (by omega)]
    · have h2 := NB_length_mono (b := 4294967296) (by omega) h1
      have h3 : n < m := by
        rcases Nat.lt_or_ge n m with h4 | h4
        · exact h4
        · exact absurd (by rw [Nat.le_antisymm h4 h1]) h
      rw [if_neg (by omega), if_pos h3]
      refine Ev.congr (fun k => ?_) (Ev.now _)
      rw [if_neg (by omega), if_neg (by omega)]
end Go.Proofs.Ytafhcchjjlbojaa.ZNatP
