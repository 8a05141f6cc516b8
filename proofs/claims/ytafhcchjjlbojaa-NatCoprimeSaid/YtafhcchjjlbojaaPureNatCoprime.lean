/- The law NatCoprime, told of numbers: divided by their greatest common divisor, two numbers have none but 1. -/
import Derived.Test.YtafhcchjjlbojaaNatO
namespace Go.Proofs.Ytafhcchjjlbojaa.Pure
open Go.RowKit Go.Proofs.YtafhcchjjlbojaaW.PrintWords Go.Proofs.YtafhcchjjlbojaaW.PrintLast Go.Proofs.YtafhcchjjlbojaaW.PrintMore Go.Proofs.Ytafhcchjjlbojaa.Num Go.Proofs.Ytafhcchjjlbojaa.ZNatCoprime Go.Proofs.Ytafhcchjjlbojaa.ZNatCoprimeP
set_option linter.unusedVariables false
set_option linter.unusedSimpArgs false

theorem NatCoprime : zelligelaw03_NatCoprime.Pure := by
  intro l0 l1 _ _ h0 _ _ h1
  apply Ev.rounds
  unfold zelligelaw03_NatCoprime.f
  have wa := WB_take (WB_wf h0) 20
  have wb := WB_take (WB_wf h1) 20
  have la := take20 l0
  have lb := take20 l1
  have eq1 := short_law l0
  have eq2 := short_law l1
  generalize l0.take 20 = a at *
  generalize l1.take 20 = b at *
  have lA := NBV_len (b := 4294967296) (by omega) wa
  have lB := NBV_len (b := 4294967296) (by omega) wb
  have hg := Gcd_f a b wa wb (by omega) (by omega)
  have lG : (NB 4294967296 (Nat.gcd (VB 4294967296 a) (VB 4294967296 b))).length ≤ 20 := by
    by_cases h : VB 4294967296 a = 0
    · rw [h, Nat.gcd_zero_left]
      omega
    · have := NB_length_mono (b := 4294967296) (by omega) (Nat.gcd_le_left (VB 4294967296 b) (show 0 < VB 4294967296 a by omega))
      omega
  have hc0 := Cmp_f (NB 4294967296 (Nat.gcd (VB 4294967296 a) (VB 4294967296 b))) [] (WB_NB _ _) (WB_nil _) (by omega) (by simp)
  rw [VB_NB (by omega), VB] at hc0
  refine Ev.congr (fun k => ?c0) (Ev.bind (f := ?F0) hg ?d0)
  case c0 => rw [eq1, eq2, Option.bind_some, Option.bind_some]
  refine Ev.bind hc0 ?_
  by_cases h : Nat.gcd (VB 4294967296 a) (VB 4294967296 b) = 0
  · obtain ⟨ha, hb⟩ := Nat.gcd_eq_zero_iff.1 h
    have hab := Cmp_f a b wa wb (by omega) (by omega)
    have ha0 := Cmp_f a [] wa (WB_nil _) (by omega) (by simp)
    rw [ha, hb, cmpN_self] at hab
    rw [ha, VB, cmpN_self] at ha0
    rw [h]
    refine Ev.congr (fun k => ?c1) (Ev.bind (f := ?F1) hab ?d1)
    case c1 => rw [cmpN_self, if_pos rfl]
    refine Ev.congr (fun k => ?c2) (Ev.bind (f := ?F2) ha0 ?d2)
    case c2 => rw [if_pos rfl]
    refine Ev.congr (fun k => ?c3) (Ev.bind (f := ?F3) lives_f ?d3)
    case c3 => rw [if_pos rfl]
    exact Ev.now _
  · have hne : ¬ cmpN (Nat.gcd (VB 4294967296 a) (VB 4294967296 b)) 0 = 0 := by
      unfold cmpN
      rw [if_neg (by omega), if_pos (by omega)]
      omega
    have hda := Nat.gcd_dvd_left (VB 4294967296 a) (VB 4294967296 b)
    have hdb := Nat.gcd_dvd_right (VB 4294967296 a) (VB 4294967296 b)
    have hcop := Nat.gcd_div hda hdb
    rw [Nat.div_self (Nat.pos_of_ne_zero h)] at hcop
    have d1 := DivMod_f a (NB 4294967296 (Nat.gcd (VB 4294967296 a) (VB 4294967296 b))) wa (WB_NB _ _) (by omega) (by omega)
    have d2 := DivMod_f b (NB 4294967296 (Nat.gcd (VB 4294967296 a) (VB 4294967296 b))) wb (WB_NB _ _) (by omega) (by omega)
    rw [VB_NB (by omega), if_neg h, Nat.mod_eq_zero_of_dvd hda, NB_zero] at d1
    rw [VB_NB (by omega), if_neg h, Nat.mod_eq_zero_of_dvd hdb, NB_zero] at d2
    generalize Nat.gcd (VB 4294967296 a) (VB 4294967296 b) = g at *
    have lqa : (NB 4294967296 (VB 4294967296 a / g)).length ≤ (NB 4294967296 (VB 4294967296 a)).length := NB_length_mono (by omega) (Nat.div_le_self _ _)
    have lqb : (NB 4294967296 (VB 4294967296 b / g)).length ≤ (NB 4294967296 (VB 4294967296 b)).length := NB_length_mono (by omega) (Nat.div_le_self _ _)
    have hg2 := Gcd_f (NB 4294967296 (VB 4294967296 a / g)) (NB 4294967296 (VB 4294967296 b / g)) (WB_NB _ _) (WB_NB _ _) (by omega) (by omega)
    rw [VB_NB (by omega), VB_NB (by omega), hcop] at hg2
    have l1 : (NB 4294967296 1).length ≤ 1 := NB_length_le (by omega) _ _ (by decide +kernel)
    have hc1 := Cmp_f (NB 4294967296 1) (NB 4294967296 1) (WB_NB _ _) (WB_NB _ _) (by omega) (by omega)
    rw [cmpN_self] at hc1
    refine Ev.congr (fun k => ?c4) (Ev.bind (f := ?F4) d1 ?d4)
    case c4 => rw [if_neg hne]
    refine Ev.bind d2 ?_
    refine Ev.congr (fun k => ?c5) (Ev.bind (f := ?F5) hg2 ?d5)
    case c5 =>
      have e0 : ((([] : List Int).length : Nat) : Int) = 0 := rfl
      rw [if_pos rfl, if_pos rfl]
      dsimp only
      rw [if_pos e0, if_pos e0]
    refine Ev.bind (Of_f 1 (by omega) (by omega)) ?_
    refine Ev.bind hc1 ?_
    refine Ev.congr (fun k => ?c6) (Ev.bind (f := ?F6) lives_f ?d6)
    case c6 => rw [if_pos rfl]
    exact Ev.now _
end Go.Proofs.Ytafhcchjjlbojaa.Pure
