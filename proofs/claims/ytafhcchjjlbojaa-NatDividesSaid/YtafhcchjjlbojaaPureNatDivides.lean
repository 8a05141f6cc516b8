/- The law NatDivides, told of numbers: the quotient and the rest are those of the reference, or there are none. -/
import Derived.Test.YtafhcchjjlbojaaNum
import Derived.Test.YtafhcchjjlbojaaNatJ
import Derived.Test.YtafhcchjjlbojaaNatM
import Derived.Test.YtafhcchjjlbojaaNatN
import Derived.Test.YtafhcchjjlbojaaRefA
import Derived.Test.YtafhcchjjlbojaaRefD
import Derived.Test.YtafhcchjjlbojaaRefG
import Derived.Test.YtafhcchjjlbojaaNatQ
import Derived.Test.YtafhcchjjlbojaaZNatgzelligelaw03NatDivides
namespace Go.Proofs.Ytafhcchjjlbojaa.Pure
open Go.RowKit Go.Proofs.YtafhcchjjlbojaaW.PrintWords Go.Proofs.YtafhcchjjlbojaaW.PrintLast Go.Proofs.YtafhcchjjlbojaaW.PrintMore Go.Proofs.Ytafhcchjjlbojaa.Num Go.Proofs.Ytafhcchjjlbojaa.ZNat Go.Proofs.Ytafhcchjjlbojaa.ZNatP
set_option linter.unusedVariables false
set_option linter.unusedSimpArgs false

theorem NatDivides : zelligelaw03_NatDivides.Pure := by
  intro l0 l1 _ _ h0 _ _ h1
  apply Ev.rounds
  unfold zelligelaw03_NatDivides.f
  have wa := WB_take (WB_wf h0) 20
  have wb := WB_take (WB_wf h1) 20
  have la := take20 l0
  have lb := take20 l1
  have eq1 := short_law l0
  have eq2 := short_law l1
  generalize l0.take 20 = a at *
  generalize l1.take 20 = b at *
  have lA := len16_of a 20 wa la
  have lB := len16_of b 20 wb lb
  have hd := DivMod_f a b wa wb (by omega) (by omega)
  have rb := ROf_f b wb (by omega)
  have ra := ROf_f a wa (by omega)
  have e0 : ((([] : List Int).length : Nat) : Int) = 0 := rfl
  refine Ev.congr (fun k => ?c0) (Ev.bind (f := ?F0) hd ?d0)
  case c0 => rw [eq1, eq2, Option.bind_some, Option.bind_some]
  refine Ev.bind rb ?_
  rcases Nat.eq_zero_or_pos (VB 4294967296 b) with hz | hp
  · rw [if_pos hz, hz, NB_zero]
    refine Ev.congr (fun k => ?c1) (Ev.bind (f := ?F1) lives_f ?d1)
    case c1 => rw [if_pos e0, if_pos e0, if_pos e0, if_pos rfl]
    exact Ev.now _
  · rw [if_neg (by omega)]
    have hn := NB_lpos (VB 4294967296 b) hp
    have rd' := RDivMod_f (VB 4294967296 a) (VB 4294967296 b) hp (by omega) (by omega)
    have lq := len16_le _ _ 20 (Nat.div_le_self (VB 4294967296 a) (VB 4294967296 b)) lA
    have lr := len16_le _ _ 20 (Nat.mod_le (VB 4294967296 a) (VB 4294967296 b)) lA
    refine Ev.congr (fun k => ?c2) (Ev.bind (f := ?F2) ra ?d2)
    case c2 => rw [if_neg (by omega)]
    refine Ev.bind rd' ?_
    refine Ev.bind (RSame_f _ (by omega) (by omega)) ?_
    refine Ev.congr (fun k => ?c3) (Ev.bind (f := ?F3) (RSame_f (VB 4294967296 a % VB 4294967296 b) (by omega) (by omega)) ?d3)
    case c3 => rw [if_pos rfl]
    refine Ev.congr (fun k => ?c4) (Ev.bind (f := ?F4) lives_f ?d4)
    case c4 => rw [if_pos rfl, if_pos rfl]
    exact Ev.now _
end Go.Proofs.Ytafhcchjjlbojaa.Pure
