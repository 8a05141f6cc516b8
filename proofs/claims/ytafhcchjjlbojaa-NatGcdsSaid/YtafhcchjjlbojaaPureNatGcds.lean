/- The law NatGcds, told of numbers: the greatest common divisor is that of the reference. -/
import Derived.Test.YtafhcchjjlbojaaNum
import Derived.Test.YtafhcchjjlbojaaNatM
import Derived.Test.YtafhcchjjlbojaaNatN
import Derived.Test.YtafhcchjjlbojaaNatO
import Derived.Test.YtafhcchjjlbojaaRefA
import Derived.Test.YtafhcchjjlbojaaRefG
import Derived.Test.YtafhcchjjlbojaaNatQ
import Derived.Test.YtafhcchjjlbojaaZNatgGcd
import Derived.Test.YtafhcchjjlbojaaZNatgLaw3
import Derived.Test.YtafhcchjjlbojaaZNatgRGcd
import Derived.Test.YtafhcchjjlbojaaZNatgRTrim
import Derived.Test.YtafhcchjjlbojaaZNatgzelligelaw03NatGcds
namespace Go.Proofs.Ytafhcchjjlbojaa.Pure
open Go.RowKit Go.Proofs.YtafhcchjjlbojaaW.PrintWords Go.Proofs.YtafhcchjjlbojaaW.PrintLast Go.Proofs.YtafhcchjjlbojaaW.PrintMore Go.Proofs.Ytafhcchjjlbojaa.Num Go.Proofs.Ytafhcchjjlbojaa.ZNat Go.Proofs.Ytafhcchjjlbojaa.ZNatP
set_option linter.unusedVariables false
set_option linter.unusedSimpArgs false

theorem NatGcds_j1 (a b : List Int) (wa : WB 4294967296 a) (wb : WB 4294967296 b) (la : a.length ≤ 20) (lb : b.length ≤ 20) : Ev (fun k => zelligelaw03_NatGcds.j1 k a b) true := by
  have lA := len16_of a 20 wa la
  have lB := len16_of b 20 wb lb
  have lG : (NB 65536 (Nat.gcd (VB 4294967296 a) (VB 4294967296 b))).length ≤ 2 * 20 ∧ (NB 4294967296 (Nat.gcd (VB 4294967296 a) (VB 4294967296 b))).length ≤ 20 := by
    rcases Nat.eq_zero_or_pos (VB 4294967296 a) with h | h
    · rw [h, Nat.gcd_zero_left]; exact lB
    · exact len16_le _ _ 20 (Nat.gcd_le_left _ h) lA
  have rg := RGcd_f (VB 4294967296 a) (VB 4294967296 b) (by omega) (by omega)
  refine Ev.step (f := fun k => (nat_Gcd.f k a b).bind fun t679 => ((zelligeref03_Of.f k a).bind fun t682 => ((zelligeref03_Of.f k b).bind fun t685 => ((zelligeref03_Gcd.f k t682 t685).bind fun t688 => ((zelligeref03_Same.f k t679 t688).bind fun t691 => (if t691 = true then ((zelligelaw03_lives.f k).bind fun t692 => (some t692)) else (some false))))))) (fun k => rfl) ?_
  refine Ev.bind (Gcd_f a b wa wb (by omega) (by omega)) ?_
  refine Ev.bind (ROf_f a wa (by omega)) ?_
  refine Ev.bind (ROf_f b wb (by omega)) ?_
  refine Ev.bind rg ?_
  refine Ev.bind (RSame_f _ (by omega) (by omega)) ?_
  refine Ev.congr (fun k => if_pos rfl) ?_
  refine Ev.bind lives_f ?_
  exact Ev.now _
theorem NatGcds : zelligelaw03_NatGcds.Pure := by
  intro l0 l1 _ _ h0 _ _ h1
  apply Ev.rounds
  unfold zelligelaw03_NatGcds.f
  have wa := WB_take (WB_wf h0) 20
  have wb := WB_take (WB_wf h1) 20
  have la := take20 l0
  have lb := take20 l1
  have eq1 := short_law l0
  have eq2 := short_law l1
  generalize l0.take 20 = a at *
  generalize l1.take 20 = b at *
  have hj : ∀ c : Bool, Ev (fun k => zelligelaw03_NatGcds.j0 k a b c) true := by
    intro c
    cases c with
    | false =>
      refine Ev.step (fun k => ?_) (NatGcds_j1 a b wa wb la lb)
      show zelligelaw03_NatGcds.j0 (k + 1) a b false = _
      simp only [zelligelaw03_NatGcds.j0]
      rw [if_neg Bool.false_ne_true]
    | true =>
      refine Ev.step (fun k => ?_) (NatGcds_j1 (a.take ((a.length : Int) % 8).toNat) (b.take ((b.length : Int) % 8).toNat) (WB_take wa _) (WB_take wb _) (by rw [List.length_take]; omega) (by rw [List.length_take]; omega))
      show zelligelaw03_NatGcds.j0 (k + 1) a b true = _
      simp only [zelligelaw03_NatGcds.j0]
      rw [if_pos trivial, if_pos (by omega), if_pos (by omega), if_pos (by omega), if_pos (by omega)]
  by_cases h : (a.length : Int) > 8
  · refine Ev.congr (fun k => ?_) (hj true)
    rw [eq1, eq2, Option.bind_some, Option.bind_some, if_pos h]
  · refine Ev.congr (fun k => ?_) (hj (decide ((b.length : Int) > 8)))
    rw [eq1, eq2, Option.bind_some, Option.bind_some, if_neg h]
end Go.Proofs.Ytafhcchjjlbojaa.Pure
