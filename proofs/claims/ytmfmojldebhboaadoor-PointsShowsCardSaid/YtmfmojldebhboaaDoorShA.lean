/- What the printed functions of the reference for nat come to, told of numbers: Trim, Of, Nat, Same. -/
import Derived.Test.YtmfmojldebhboaaDoorNum
import Derived.Test.YtmfmojldebhboaaDoorZSx3
namespace Go.Proofs.YtmfmojldebhboaaDoor.ZSP
open Go.RowKit Go.Proofs.YtmfmojldebhboaaDoorW.PrintWords Go.Proofs.YtmfmojldebhboaaDoorW.PrintLast Go.Proofs.YtmfmojldebhboaaDoorW.PrintMore Go.Proofs.YtmfmojldebhboaaDoor.Num Go.Proofs.YtmfmojldebhboaaDoor.ZS
set_option linter.unusedVariables false
set_option linter.unusedSimpArgs false

theorem RTrim_l0 (l : List Int) (hW : WB 65536 l) (hb : l.length < 4611686018427387904) : ∀ (i : Nat), i ≤ l.length → Ev (fun k => zelligeref03_Trim_own.l0 k l (i : Int)) (NB 65536 (VB 65536 (l.take i))) := by
  intro i
  induction i with
  | zero =>
    intro hi
    rw [List.take_zero, VB, NB_zero]
    refine Ev.step (f := fun _ => some []) (fun k => ?_) (Ev.now _)
    show zelligeref03_Trim_own.l0 (k + 1) l ((0 : Nat) : Int) = _
    simp only [zelligeref03_Trim_own.l0]
    rw [if_neg (by omega), if_pos (by omega), if_pos (by omega), Int.toNat_natCast, List.take_zero]
  | succ i ih =>
    intro hi
    have hw : wrap64 (((i + 1 : Nat) : Int) - 1) = (i : Int) := by rw [w64in _ (by omega) (by omega)]; omega
    have HW := Aside0.mk hw
    clear hw
    by_cases hx : rd l (i : Int) = 0
    · have e := VB_take_succ 65536 l i (by omega)
      rw [hx, Int.toNat_zero, Nat.mul_zero, Nat.add_zero] at e
      rw [e]
      refine Ev.step (fun k => ?_) (ih (by omega))
      show zelligeref03_Trim_own.l0 (k + 1) l ((i + 1 : Nat) : Int) = _
      simp only [zelligeref03_Trim_own.l0]
      rw [HW.out, if_pos (by omega), if_pos (by omega), if_pos (by omega), if_pos hx]
    · have hc := NB_canon (b := 65536) (by omega) (l.take (i + 1)) (WB_take hW _) (fun m y e => by
        rw [take_rd l i (by omega)] at e
        have := List.append_inj' e rfl
        have h2 : rd l (i : Int) = y := by simpa using this.2
        rw [← h2]; exact hx)
      rw [hc]
      refine Ev.step (f := fun _ => some (l.take (i + 1))) (fun k => ?_) (Ev.now _)
      show zelligeref03_Trim_own.l0 (k + 1) l ((i + 1 : Nat) : Int) = _
      simp only [zelligeref03_Trim_own.l0]
      rw [HW.out, if_pos (by omega), if_pos (by omega), if_pos (by omega), if_neg hx, if_pos (by omega), if_pos (by omega), Int.toNat_natCast]
theorem RTrim_f (l : List Int) (hW : WB 65536 l) (hb : l.length < 4611686018427387904) : Ev (fun k => zelligeref03_Trim_own.f k l) (NB 65536 (VB 65536 l)) := by
  have := RTrim_l0 l hW hb l.length (Nat.le_refl _)
  rw [List.take_of_length_le (Nat.le_refl _)] at this
  exact this
theorem pow_16 (i : Nat) : 65536 ^ (2 * i) = 4294967296 ^ i := by
  rw [Nat.pow_mul]
theorem ROf_l0 (l : List Int) (hW : WB 4294967296 l) (hb : l.length < 8796093022207) : ∀ (d i : Nat) (out : List Int), l.length - i = d → i ≤ l.length → out.length = 2 * i → WB 65536 out → VB 65536 out = VB 4294967296 (l.take i) →
    Ev (fun k => zelligeref03_Of.l0 k l out (i : Int)) (NB 65536 (VB 4294967296 l)) := by
  intro d
  induction d with
  | zero =>
    intro i out hd hi ho hWo he
    have hi' : i = l.length := by omega
    subst hi'
    rw [List.take_of_length_le (Nat.le_refl _)] at he
    have h1 := RTrim_f out hWo (by omega)
    rw [he] at h1
    refine Ev.step (fun k => ?c) (Ev.bind (f := ?F) h1 ?d)
    case c =>
      show zelligeref03_Of.l0 (k + 1) l out (l.length : Int) = _
      simp only [zelligeref03_Of.l0]
      rw [if_neg (by omega)]
    case d => exact Ev.now _
  | succ d ih =>
    intro i out hd hi ho hWo he
    have ra := WB_rd hW i (by omega)
    obtain ⟨x, hx⟩ := Int.eq_ofNat_of_zero_le ra.1
    have TA := VB_take_succ 4294967296 l i (by omega)
    rw [hx, Int.toNat_natCast] at TA
    rw [hx] at ra
    have E1 : Aside0 (wrap64 (Int.tmod (x : Int) 65536) = ((x % 65536 : Nat) : Int)) := ⟨by rw [nmod16, w64in _ (by omega) (by omega)]⟩
    have e2 : (Int.tdiv (x : Int) 65536) % 4294967296 = ((x / 65536 : Nat) : Int) := by rw [ndiv16]; omega
    have E2 := Aside0.mk (wsucc i (by omega))
    refine Ev.step (fun k => ?_) (ih (i + 1) (out ++ [((x % 65536 : Nat) : Int), ((x / 65536 : Nat) : Int)]) (by omega) (by omega) (by simp; omega) (WB_append.2 ⟨hWo, WB_cons.2 ⟨by omega, WB_cons.2 ⟨by omega, WB_nil _⟩⟩⟩) ?_)
    · show zelligeref03_Of.l0 (k + 1) l out (i : Int) = _
      simp only [zelligeref03_Of.l0]
      rw [if_pos (by omega), if_pos (by omega), hx, E1.out, e2, Option.bind_some, if_pos (by simp; omega), E2.out]
    · rw [VB_append, ho, pow_16, TA, he, VB, VB, VB, Int.toNat_natCast, Int.toNat_natCast, Nat.mul_zero, Nat.add_zero, Nat.mod_add_div]
theorem ROf_f (l : List Int) (hW : WB 4294967296 l) (hb : l.length < 8796093022207) : Ev (fun k => zelligeref03_Of.f k l) (NB 65536 (VB 4294967296 l)) :=
  ROf_l0 l hW hb _ 0 [] rfl (by omega) rfl (WB_nil _) rfl
end Go.Proofs.YtmfmojldebhboaaDoor.ZSP
