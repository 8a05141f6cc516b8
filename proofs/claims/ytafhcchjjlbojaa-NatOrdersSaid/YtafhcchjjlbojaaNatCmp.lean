/- What the printed functions of nat come to, told of numbers: the order, as told outside. -/
import Derived.Test.YtafhcchjjlbojaaNum
import Derived.Test.YtafhcchjjlbojaaNatA
import Derived.Test.YtafhcchjjlbojaaZNatgCore
namespace Go.Proofs.Ytafhcchjjlbojaa.ZNatP
open Go.RowKit Go.Proofs.YtafhcchjjlbojaaW.PrintWords Go.Proofs.YtafhcchjjlbojaaW.PrintLast Go.Proofs.YtafhcchjjlbojaaW.PrintMore Go.Proofs.Ytafhcchjjlbojaa.Num Go.Proofs.Ytafhcchjjlbojaa.ZNat
set_option linter.unusedVariables false
set_option linter.unusedSimpArgs false

theorem Cmp_f (a b : List Int) (ha : WB 4294967296 a) (hb : WB 4294967296 b) (la : a.length < 35184372088832) (lb : b.length < 35184372088832) :
    Ev (fun k => nat_Cmp.f k a b) (cmpN (VB 4294967296 a) (VB 4294967296 b)) := by
  unfold nat_Cmp.f
  exact Ev.bind (cmp_f a b ha hb la lb) (Ev.now _)
end Go.Proofs.Ytafhcchjjlbojaa.ZNatP
