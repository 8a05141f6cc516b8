/- The law NatOrders, told of numbers: order, bits and trimming are those of the reference. -/
import Derived.Test.YtafhcchjjlbojaaNum
import Derived.Test.YtafhcchjjlbojaaNatTrim
import Derived.Test.YtafhcchjjlbojaaNatM
import Derived.Test.YtafhcchjjlbojaaNatCmp
import Derived.Test.YtafhcchjjlbojaaNatN
import Derived.Test.YtafhcchjjlbojaaRefA
import Derived.Test.YtafhcchjjlbojaaRefB
import Derived.Test.YtafhcchjjlbojaaRefG
import Derived.Test.YtafhcchjjlbojaaNatP
import Derived.Test.YtafhcchjjlbojaaNatQ
import Derived.Test.YtafhcchjjlbojaaZNatgzelligelaw03NatOrders
namespace Go.Proofs.Ytafhcchjjlbojaa.Pure
open Go.RowKit Go.Proofs.YtafhcchjjlbojaaW.PrintWords Go.Proofs.YtafhcchjjlbojaaW.PrintLast Go.Proofs.YtafhcchjjlbojaaW.PrintMore Go.Proofs.Ytafhcchjjlbojaa.Num Go.Proofs.Ytafhcchjjlbojaa.ZNat Go.Proofs.Ytafhcchjjlbojaa.ZNatP
set_option linter.unusedVariables false
set_option linter.unusedSimpArgs false

theorem NatOrders : zelligelaw03_NatOrders.Pure := by
  intro l0 l1 _ _ h0 _ _ h1
  apply Ev.rounds
  unfold zelligelaw03_NatOrders.f
  have wa := WB_take (WB_wf h0) 20
  have wb := WB_take (WB_wf h1) 20
  have la := take20 l0
  have lb := take20 l1
  have eq1 := short_law l0
  have eq2 := short_law l1
  generalize l0.take 20 = a at *
  generalize l1.take 20 = b at *
  have lA := len16_of a 20 wa la
  have lB := len16_of b 20 wb lb
  have hz := Cmp_f a (a ++ [0]) wa (WB_append.2 ⟨wa, WB_cons.2 ⟨by omega, WB_nil _⟩⟩) (by omega) (by simp; omega)
  rw [show VB 4294967296 (a ++ [0]) = VB 4294967296 a from by rw [VB_snoc]; simp, cmpN_self] at hz
  refine Ev.congr (fun k => ?c0) (Ev.bind (f := ?F0) (ROf_f a wa (by omega)) ?d0)
  case c0 => rw [eq1, eq2, Option.bind_some, Option.bind_some]
  refine Ev.bind (ROf_f b wb (by omega)) ?_
  refine Ev.bind (Cmp_f a b wa wb (by omega) (by omega)) ?_
  refine Ev.bind (RCmp_f _ _ (by omega)) ?_
  refine Ev.congr (fun k => if_pos rfl) ?_
  refine Ev.bind (Bits_f a wa (by omega)) ?_
  refine Ev.bind (RBits_f _ (by omega)) ?_
  refine Ev.congr (fun k => if_pos rfl) ?_
  refine Ev.bind (Trim_f a wa (by omega)) ?_
  refine Ev.bind (RSame_f _ (by omega) (by omega)) ?_
  refine Ev.congr (fun k => ?c1) (Ev.bind (f := ?F1) hz ?d1)
  case c1 => rw [if_pos rfl, if_pos (by omega)]
  refine Ev.congr (fun k => if_pos rfl) ?_
  refine Ev.bind lives_f ?_
  exact Ev.now _
end Go.Proofs.Ytafhcchjjlbojaa.Pure
