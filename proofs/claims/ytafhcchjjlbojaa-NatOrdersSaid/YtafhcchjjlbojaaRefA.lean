/- What the printed functions of the reference for nat come to, told of numbers: Trim, Of, Nat, Same. -/
import Derived.Test.YtafhcchjjlbojaaNum
import Derived.Test.YtafhcchjjlbojaaStr
import Derived.Test.YtafhcchjjlbojaaZNatgRTrim
namespace Go.Proofs.Ytafhcchjjlbojaa.ZNatP
open Go.RowKit Go.Proofs.YtafhcchjjlbojaaW.PrintWords Go.Proofs.YtafhcchjjlbojaaW.PrintLast Go.Proofs.YtafhcchjjlbojaaW.PrintMore Go.Proofs.Ytafhcchjjlbojaa.Num Go.Proofs.Ytafhcchjjlbojaa.ZNat
set_option linter.unusedVariables false
set_option linter.unusedSimpArgs false

theorem RTrim_l0 (l : List Int) (hW : WB 65536 l) (hb : l.length < 4611686018427387904) : ∀ (i : Nat), i ≤ l.length → Ev (fun k => zelligeref03_Trim.l0 k l (i : Int)) (NB 65536 (VB 65536 (l.take i))) := by
  intro i
  induction i with
  | zero =>
    intro hi
    rw [List.take_zero, VB, NB_zero]
    refine Ev.step (f := fun _ => some []) (fun k => ?_) (Ev.now _)
    show zelligeref03_Trim.l0 (k + 1) l ((0 : Nat) : Int) = _
    simp only [zelligeref03_Trim.l0]
    rw [if_neg (by omega), if_pos (by omega), if_pos (by omega), Int.toNat_natCast, List.take_zero]
  | succ i ih =>
    intro hi
    have hw : wrap64 (((i + 1 : Nat) : Int) - 1) = (i : Int) := by rw [w64in _ (by omega) (by omega)]; omega
    have HW := Aside0.mk hw
    clear hw
    by_cases hx : rd l (i : Int) = 0
    · have e := VB_take_succ 65536 l i (by omega)
      rw [hx, Int.toNat_zero, Nat.mul_zero, Nat.add_zero] at e
      rw [e]
      refine Ev.step (fun k => ?_) (ih (by omega))
      show zelligeref03_Trim.l0 (k + 1) l ((i + 1 : Nat) : Int) = _
      simp only [zelligeref03_Trim.l0]
      rw [HW.out, if_pos (by omega), if_pos (by omega), if_pos (by omega), if_pos hx]
    · have hc := NB_canon (b := 65536) (by omega) (l.take (i + 1)) (WB_take hW _) (fun m y e => by
        rw [take_rd l i (by omega)] at e
        have := List.append_inj' e rfl
        have h2 : rd l (i : Int) = y := by simpa using this.2
        rw [← h2]; exact hx)
      rw [hc]
      refine Ev.step (f := fun _ => some (l.take (i + 1))) (fun k => ?_) (Ev.now _)
      show zelligeref03_Trim.l0 (k + 1) l ((i + 1 : Nat) : Int) = _
      simp only [zelligeref03_Trim.l0]
      rw [HW.out, if_pos (by omega), if_pos (by omega), if_pos (by omega), if_neg hx, if_pos (by omega), if_pos (by omega), Int.toNat_natCast]
theorem RTrim_f (l : List Int) (hW : WB 65536 l) (hb : l.length < 4611686018427387904) : Ev (fun k => zelligeref03_Trim.f k l) (NB 65536 (VB 65536 l)) := by
  have := RTrim_l0 l hW hb l.length (Nat.le_refl _)
  rw [List.take_of_length_le (Nat.le_refl _)] at this
  exact this
theorem pow_16 (i : Nat) : 65536 ^ (2 * i) = 4294967296 ^ i := by
  rw [Nat.pow_mul]
theorem ROf_l0 (l : List Int) (hW : WB 4294967296 l) (hb : l.length < 8796093022207) : ∀ (d i : Nat) (out : List Int), l.length - i = d → i ≤ l.length → out.length = 2 * i → WB 65536 out → VB 65536 out = VB 4294967296 (l.take i) →
    Ev (fun k => zelligeref03_Of.l0 k l out (i : Int)) (NB 65536 (VB 4294967296 l)) := by
  intro d
  induction d with
  | zero =>
    intro i out hd hi ho hWo he
    have hi' : i = l.length := by omega
    subst hi'
    rw [List.take_of_length_le (Nat.le_refl _)] at he
    have h1 := RTrim_f out hWo (by omega)
    rw [he] at h1
    refine Ev.step (fun k => ?c) (Ev.bind (f := ?F) h1 ?d)
    case c =>
      show zelligeref03_Of.l0 (k + 1) l out (l.length : Int) = _
      simp only [zelligeref03_Of.l0]
      rw [if_neg (by omega)]
    case d => exact Ev.now _
  | succ d ih =>
    intro i out hd hi ho hWo he
    have ra := WB_rd hW i (by omega)
    obtain ⟨x, hx⟩ := Int.eq_ofNat_of_zero_le ra.1
    have TA := VB_take_succ 4294967296 l i (by omega)
    rw [hx, Int.toNat_natCast] at TA
    rw [hx] at ra
    have E1 : Aside0 (wrap64 (Int.tmod (x : Int) 65536) = ((x % 65536 : Nat) : Int)) := ⟨by rw [nmod16, w64in _ (by omega) (by omega)]⟩
    have e2 : (Int.tdiv (x : Int) 65536) % 4294967296 = ((x / 65536 : Nat) : Int) := by rw [ndiv16]; omega
    have E2 := Aside0.mk (wsucc i (by omega))
    refine Ev.step (fun k => ?_) (ih (i + 1) (out ++ [((x % 65536 : Nat) : Int), ((x / 65536 : Nat) : Int)]) (by omega) (by omega) (by simp; omega) (WB_append.2 ⟨hWo, WB_cons.2 ⟨by omega, WB_cons.2 ⟨by omega, WB_nil _⟩⟩⟩) ?_)
    · show zelligeref03_Of.l0 (k + 1) l out (i : Int) = _
      simp only [zelligeref03_Of.l0]
      rw [if_pos (by omega), if_pos (by omega), hx, E1.out, e2, Option.bind_some, if_pos (by simp; omega), E2.out]
    · rw [VB_append, ho, pow_16, TA, he, VB, VB, VB, Int.toNat_natCast, Int.toNat_natCast, Nat.mul_zero, Nat.add_zero, Nat.mod_add_div]
theorem ROf_f (l : List Int) (hW : WB 4294967296 l) (hb : l.length < 8796093022207) : Ev (fun k => zelligeref03_Of.f k l) (NB 65536 (VB 4294967296 l)) :=
  ROf_l0 l hW hb _ 0 [] rfl (by omega) rfl (WB_nil _) rfl
/-- The two halves of a word put together. -/
theorem RNat_l0 (l : List Int) (hW : WB 65536 l) (hb : l.length < 17592186044415) : ∀ (d j : Nat) (out : List Int), l.length + 1 - 2 * j = d → 2 * j ≤ l.length + 1 → out.length = j → WB 4294967296 out → VB 4294967296 out = VB 65536 (l.take (2 * j)) →
    ∃ z : List Int, z.length = (l.length + 1) / 2 ∧ WB 4294967296 z ∧ VB 4294967296 z = VB 65536 l ∧ Ev (fun k => zelligeref03_Nat.l0 k l out ((2 * j : Nat) : Int)) z := by
  intro d
  induction d using Nat.strongRecOn with
  | ind d ih =>
    intro j out hd hj ho hWo he
    by_cases h : 2 * j < l.length
    · have ra := WB_rd hW (2 * j) h
      obtain ⟨x, hx⟩ := Int.eq_ofNat_of_zero_le ra.1
      rw [hx] at ra
      have TA := VB_take_succ 65536 l (2 * j) h
      rw [hx, Int.toNat_natCast, pow_16] at TA
      have E1 := Aside0.mk (wsucc (2 * j) (by omega))
      have E2 := Aside0.mk (show wrap64 (((2 * j : Nat) : Int) + 2) = ((2 * (j + 1) : Nat) : Int) from by rw [w64in _ (by omega) (by omega)]; omega)
      by_cases h2 : 2 * j + 1 < l.length
      · have rb := WB_rd hW (2 * j + 1) h2
        obtain ⟨y, hy⟩ := Int.eq_ofNat_of_zero_le rb.1
        rw [hy] at rb
        have TB := VB_take_succ 65536 l (2 * j + 1) h2
        rw [hy, Int.toNat_natCast, TA, Nat.pow_succ, pow_16] at TB
        have E3 : Aside0 ((wrap64 ((x : Int) + wrap64 (65536 * (y : Int)))) % 4294967296 = ((x + 65536 * y : Nat) : Int)) := ⟨by
          rw [w64in (65536 * (y : Int)) (by omega) (by omega), w64in ((x : Int) + 65536 * (y : Int)) (by omega) (by omega)]
          omega⟩
        obtain ⟨z, z1, z2, z3, z4⟩ := ih (l.length + 1 - 2 * (j + 1)) (by omega) (j + 1) (out ++ [((x + 65536 * y : Nat) : Int)]) rfl (by omega) (by simp [ho]) (WB_append.2 ⟨hWo, WB_cons.2 ⟨by omega, WB_nil _⟩⟩) (by
          rw [VB_snoc, ho, Int.toNat_natCast, he, show 2 * (j + 1) = 2 * j + 1 + 1 from by omega, TB, Nat.mul_add, Nat.mul_assoc, Nat.add_assoc])
        refine ⟨z, z1, z2, z3, Ev.step (fun k => ?_) z4⟩
        show zelligeref03_Nat.l0 (k + 1) l out ((2 * j : Nat) : Int) = _
        simp only [zelligeref03_Nat.l0]
        rw [if_pos (by omega), if_pos (by omega), E1.out, E2.out, if_pos (by omega), if_pos (by omega), if_pos (by omega), hx, hy, E3.out]
      · obtain ⟨z, z1, z2, z3, z4⟩ := ih (l.length + 1 - 2 * (j + 1)) (by omega) (j + 1) (out ++ [(x : Int)]) rfl (by omega) (by simp [ho]) (WB_append.2 ⟨hWo, WB_cons.2 ⟨by omega, WB_nil _⟩⟩) (by
          rw [VB_snoc, ho, Int.toNat_natCast, he, List.take_of_length_le (show l.length ≤ 2 * (j + 1) by omega)]
          rw [List.take_of_length_le (show l.length ≤ 2 * j + 1 by omega)] at TA
          exact TA.symm)
        refine ⟨z, z1, z2, z3, Ev.step (fun k => ?_) z4⟩
        show zelligeref03_Nat.l0 (k + 1) l out ((2 * j : Nat) : Int) = _
        simp only [zelligeref03_Nat.l0]
        rw [if_pos (by omega), if_pos (by omega), E1.out, E2.out, if_neg (by omega), if_pos (by omega), hx, show (x : Int) % 4294967296 = (x : Int) from by omega]
    · rw [List.take_of_length_le (by omega)] at he
      refine ⟨out, by omega, hWo, he, Ev.step (f := fun _ => some out) (fun k => ?_) (Ev.now _)⟩
      show zelligeref03_Nat.l0 (k + 1) l out ((2 * j : Nat) : Int) = _
      simp only [zelligeref03_Nat.l0]
      rw [if_neg (by omega)]
theorem RNat_f (n : Nat) (hb : (NB 65536 n).length < 17592186044415) : Ev (fun k => zelligeref03_Nat.f k (NB 65536 n)) (NB 4294967296 n) := by
  obtain ⟨z, z1, z2, z3, z4⟩ := RNat_l0 (NB 65536 n) (WB_NB _ _) hb _ 0 [] rfl (by omega) rfl (WB_nil _) rfl
  rw [VB_NB (by omega)] at z3
  have hz : z = NB 4294967296 n := by
    rw [← z3]
    refine (NB_of_len (by omega) z z2 ?_).symm
    rw [z1, z3]
    rcases Nat.eq_zero_or_pos (NB 65536 n).length with h | h
    · left; omega
    · right
      rcases Nat.lt_or_ge n (4294967296 ^ (((NB 65536 n).length + 1) / 2 - 1)) with h2 | h2
      · rw [← pow_16] at h2
        have := NB_length_le (b := 65536) (by omega) _ _ h2
        omega
      · exact h2
  rw [← hz]
  exact z4
theorem RSame_l0 (a : List Int) (hb : a.length < 4611686018427387904) : ∀ (d i : Nat), a.length - i = d → i ≤ a.length → Ev (fun k => zelligeref03_Same.l0 k a a (i : Int)) true := by
  intro d
  induction d with
  | zero =>
    intro i hd hi
    refine Ev.step (f := fun _ => some true) (fun k => ?_) (Ev.now _)
    show zelligeref03_Same.l0 (k + 1) a a (i : Int) = _
    simp only [zelligeref03_Same.l0]
    rw [if_neg (by omega)]
  | succ d ih =>
    intro i hd hi
    refine Ev.step (fun k => ?_) (ih (i + 1) (by omega) (by omega))
    show zelligeref03_Same.l0 (k + 1) a a (i : Int) = _
    simp only [zelligeref03_Same.l0]
    rw [if_pos (by omega), if_pos (by omega), if_pos (by omega), if_pos trivial, wsucc i (by omega)]
theorem RSame_f (n : Nat) (hb : (NB 65536 n).length < 17592186044415) (hl : (NB 4294967296 n).length < 4611686018427387904) : Ev (fun k => zelligeref03_Same.f k (NB 4294967296 n) (NB 65536 n)) true := by
  unfold zelligeref03_Same.f
  refine Ev.bind (RNat_f n hb) ?_
  refine Ev.congr (fun k => ?_) (RSame_l0 _ hl _ 0 rfl (by omega))
  rw [if_pos rfl]
  rfl
end Go.Proofs.Ytafhcchjjlbojaa.ZNatP
