/- What the printed functions of nat come to, told of numbers: trim, as told outside. -/
import Derived.Test.YtafhcchjjlbojaaNum
import Derived.Test.YtafhcchjjlbojaaNatA
import Derived.Test.YtafhcchjjlbojaaZNatgSize
namespace Go.Proofs.Ytafhcchjjlbojaa.ZNatP
open Go.RowKit Go.Proofs.YtafhcchjjlbojaaW.PrintWords Go.Proofs.YtafhcchjjlbojaaW.PrintLast Go.Proofs.YtafhcchjjlbojaaW.PrintMore Go.Proofs.Ytafhcchjjlbojaa.Num Go.Proofs.Ytafhcchjjlbojaa.ZNat
set_option linter.unusedVariables false
set_option linter.unusedSimpArgs false

theorem Trim_f (a : List Int) (ha : WB 4294967296 a) (la : a.length < 35184372088832) : Ev (fun k => nat_Trim.f k a) (NB 4294967296 (VB 4294967296 a)) := by
  unfold nat_Trim.f
  have h2 := NBV_len (by omega) ha
  refine Ev.bind (trim_f a ha (by omega)) ?_
  refine Ev.congr (fun k => ?_) (Ev.now _)
  rw [clone_f _ (by omega)]
  rfl

end Go.Proofs.Ytafhcchjjlbojaa.ZNatP
