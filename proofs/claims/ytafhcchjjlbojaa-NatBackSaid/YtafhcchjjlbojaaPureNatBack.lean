/- The law NatBack, told of numbers: what is added and taken off again is as before; quotient times divisor and remainder give the number. -/
import Derived.Test.YtafhcchjjlbojaaNatN
namespace Go.Proofs.Ytafhcchjjlbojaa.Pure
open Go.RowKit Go.Proofs.YtafhcchjjlbojaaW.PrintWords Go.Proofs.YtafhcchjjlbojaaW.PrintLast Go.Proofs.YtafhcchjjlbojaaW.PrintMore Go.Proofs.Ytafhcchjjlbojaa.Num Go.Proofs.Ytafhcchjjlbojaa.ZNatBack Go.Proofs.Ytafhcchjjlbojaa.ZNatBackP
set_option linter.unusedVariables false
set_option linter.unusedSimpArgs false

theorem NatBack : zelligelaw03_NatBack.Pure := by
  intro l0 l1 _ _ h0 _ _ h1
  apply Ev.rounds
  unfold zelligelaw03_NatBack.f
  have wa := WB_take (WB_wf h0) 20
  have wb := WB_take (WB_wf h1) 20
  have la := take20 l0
  have lb := take20 l1
  have eq1 := short_law l0
  have eq2 := short_law l1
  generalize l0.take 20 = a at *
  generalize l1.take 20 = b at *
  have hA := VB_lt (by omega) wa
  have hB := VB_lt (by omega) wb
  have lA := NBV_len (b := 4294967296) (by omega) wa
  have lB := NBV_len (b := 4294967296) (by omega) wb
  have hS : VB 4294967296 a + VB 4294967296 b < 4294967296 ^ 21 := by
    have e1 := Nat.pow_le_pow_right (show 0 < 4294967296 by omega) la
    have e2 := Nat.pow_le_pow_right (show 0 < 4294967296 by omega) lb
    exact Nat.lt_of_lt_of_le (Nat.add_lt_add (Nat.lt_of_lt_of_le hA e1) (Nat.lt_of_lt_of_le hB e2)) (by decide +kernel)
  have lS := NB_length_le (b := 4294967296) (by omega) _ _ hS
  have HS := Aside0.mk hS
  clear hA hB hS
  have hadd := Add_f a b wa wb (by omega) (by omega)
  have hsub := Sub_f (NB 4294967296 (VB 4294967296 a + VB 4294967296 b)) b (WB_NB _ _) wb (by omega) (by omega)
  rw [VB_NB (by omega), if_neg (by omega), Nat.add_sub_cancel] at hsub
  have hcmp := Cmp_f (NB 4294967296 (VB 4294967296 a)) a (WB_NB _ _) wa (by omega) (by omega)
  rw [VB_NB (by omega), cmpN_self] at hcmp
  have hdm := DivMod_f a b wa wb (by omega) (by omega)
  refine Ev.congr (fun k => ?c0) (Ev.bind (f := ?F0) hadd ?d0)
  case c0 => rw [eq1, eq2, Option.bind_some, Option.bind_some]
  refine Ev.bind hsub ?_
  refine Ev.congr (fun k => ?c) (Ev.bind (f := ?F) hcmp ?d)
  case c => rw [if_pos rfl]
  case d =>
    by_cases hb0 : VB 4294967296 b = 0
    · rw [if_pos hb0] at hdm
      have hc2 := Cmp_f b [] wb (WB_nil _) (by omega) (by simp)
      rw [hb0, VB, cmpN_self] at hc2
      refine Ev.step (fun k => ?c1) (Ev.bind (f := ?F1) hdm ?d1)
      case c1 =>
        show zelligelaw03_NatBack.j0 (k + 1) _ _ _ = _
        simp only [zelligelaw03_NatBack.j0]
        rw [if_neg (by decide)]
      case d1 =>
        refine Ev.congr (fun k => ?c2) (Ev.bind (f := ?F2) hc2 ?d2)
        case c2 => rw [if_neg (by decide)]
        case d2 =>
          refine Ev.congr (fun k => ?c3) (Ev.bind (f := ?F3) lives_f ?d3)
          case c3 => rw [if_pos rfl]
          case d3 => exact Ev.now _
    · rw [if_neg hb0] at hdm
      have lQ : (NB 4294967296 (VB 4294967296 a / VB 4294967296 b)).length ≤ (NB 4294967296 (VB 4294967296 a)).length := NB_length_mono (by omega) (Nat.div_le_self _ _)
      have hml := Nat.mod_lt (VB 4294967296 a) (show 0 < VB 4294967296 b by omega)
      have lR : (NB 4294967296 (VB 4294967296 a % VB 4294967296 b)).length ≤ (NB 4294967296 (VB 4294967296 b)).length := NB_length_mono (by omega) (by omega)
      have hmul := Mul_f (NB 4294967296 (VB 4294967296 a / VB 4294967296 b)) b (WB_NB _ _) wb (by omega)
      have hdiv := Nat.div_add_mod (VB 4294967296 a) (VB 4294967296 b)
      rw [VB_NB (by omega), Nat.mul_comm] at hmul
      have lM : (NB 4294967296 (VB 4294967296 b * (VB 4294967296 a / VB 4294967296 b))).length ≤ (NB 4294967296 (VB 4294967296 a)).length := NB_length_mono (by omega) (Nat.mul_div_le _ _)
      have hadd2 := Add_f _ _ (WB_NB 4294967296 (VB 4294967296 b * (VB 4294967296 a / VB 4294967296 b))) (WB_NB 4294967296 (VB 4294967296 a % VB 4294967296 b)) (by omega) (by omega)
      rw [VB_NB (by omega), VB_NB (by omega), hdiv] at hadd2
      have hc3 := Cmp_f (NB 4294967296 (VB 4294967296 a % VB 4294967296 b)) b (WB_NB _ _) wb (by omega) (by omega)
      rw [VB_NB (by omega)] at hc3
      unfold cmpN at hc3
      rw [if_pos hml] at hc3
      refine Ev.step (fun k => ?c11) (Ev.bind (f := ?F11) hdm ?d11)
      case c11 =>
        show zelligelaw03_NatBack.j0 (k + 1) _ _ _ = _
        simp only [zelligelaw03_NatBack.j0]
        rw [if_neg (by decide)]
      case d11 =>
        refine Ev.congr (fun k => ?c12) (Ev.bind (f := ?F12) hmul ?d12)
        case c12 => rw [if_pos rfl]
        case d12 =>
          refine Ev.bind hadd2 ?_
          refine Ev.bind hcmp ?_
          refine Ev.congr (fun k => ?c13) (Ev.bind (f := ?F13) hc3 ?d13)
          case c13 => rw [if_pos rfl]
          case d13 =>
            refine Ev.congr (fun k => ?c14) (Ev.bind (f := ?F14) lives_f ?d14)
            case c14 => rw [if_pos (by decide)]
            case d14 => exact Ev.now _
end Go.Proofs.Ytafhcchjjlbojaa.Pure
