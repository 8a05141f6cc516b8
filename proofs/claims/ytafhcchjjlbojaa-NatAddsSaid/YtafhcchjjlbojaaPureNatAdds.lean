/- The law NatAdds, told of numbers: sum, product and difference are those of the reference. -/
import Derived.Test.YtafhcchjjlbojaaNum
import Derived.Test.YtafhcchjjlbojaaNatAdd
import Derived.Test.YtafhcchjjlbojaaNatSub
import Derived.Test.YtafhcchjjlbojaaNatC
import Derived.Test.YtafhcchjjlbojaaNatM
import Derived.Test.YtafhcchjjlbojaaNatN
import Derived.Test.YtafhcchjjlbojaaRefA
import Derived.Test.YtafhcchjjlbojaaRefB
import Derived.Test.YtafhcchjjlbojaaRefC
import Derived.Test.YtafhcchjjlbojaaNatQ
import Derived.Test.YtafhcchjjlbojaaZNatgzelligelaw03NatAdds
namespace Go.Proofs.Ytafhcchjjlbojaa.Pure
open Go.RowKit Go.Proofs.YtafhcchjjlbojaaW.PrintWords Go.Proofs.YtafhcchjjlbojaaW.PrintLast Go.Proofs.YtafhcchjjlbojaaW.PrintMore Go.Proofs.Ytafhcchjjlbojaa.Num Go.Proofs.Ytafhcchjjlbojaa.ZNat Go.Proofs.Ytafhcchjjlbojaa.ZNatP
set_option linter.unusedVariables false
set_option linter.unusedSimpArgs false

theorem NatAdds : zelligelaw03_NatAdds.Pure := by
  intro l0 l1 _ _ h0 _ _ h1
  apply Ev.rounds
  unfold zelligelaw03_NatAdds.f
  have wa := WB_take (WB_wf h0) 20
  have wb := WB_take (WB_wf h1) 20
  have la := take20 l0
  have lb := take20 l1
  have eq1 := short_law l0
  have eq2 := short_law l1
  generalize l0.take 20 = a at *
  generalize l1.take 20 = b at *
  have hA := Nat.lt_of_lt_of_le (VB_lt (by omega) wa) (Nat.pow_le_pow_right (show 0 < 4294967296 by omega) la)
  have hB := Nat.lt_of_lt_of_le (VB_lt (by omega) wb) (Nat.pow_le_pow_right (show 0 < 4294967296 by omega) lb)
  have hS : VB 4294967296 a + VB 4294967296 b < 4294967296 ^ 21 := Nat.lt_of_lt_of_le (Nat.add_lt_add hA hB) (by decide +kernel)
  have hP : VB 4294967296 a * VB 4294967296 b < 4294967296 ^ 40 := Nat.lt_of_lt_of_le (Nat.mul_lt_mul'' hA hB) (by decide +kernel)
  have lA := len16 _ _ hA
  have lB := len16 _ _ hB
  have lS := len16 _ _ hS
  have lP := len16 _ _ hP
  have HA := Aside0.mk hA
  clear hA hB hS hP
  have rA := ROf_f a wa (by omega)
  have rB := ROf_f b wb (by omega)
  have sub := Sub_f a b wa wb (by omega) (by omega)
  have cmp := RCmp_f (VB 4294967296 a) (VB 4294967296 b) (by omega)
  have add := Add_f a b wa wb (by omega) (by omega)
  have radd := RAdd_f (NB 65536 (VB 4294967296 a)) (NB 65536 (VB 4294967296 b)) (WB_NB _ _) (WB_NB _ _) (by omega) (by omega)
  have rmul := RMul_f (NB 65536 (VB 4294967296 a)) (NB 65536 (VB 4294967296 b)) (WB_NB _ _) (WB_NB _ _) (by omega)
  have mul := Mul_f a b wa wb (by omega)
  rw [VB_NB (by omega), VB_NB (by omega)] at radd rmul
  refine Ev.congr (fun k => ?c0) (Ev.bind (f := ?F0) rA ?d0)
  case c0 => rw [eq1, eq2, Option.bind_some, Option.bind_some]
  refine Ev.bind rB ?_
  refine Ev.bind sub ?_
  refine Ev.bind cmp ?_
  refine Ev.bind add ?_
  refine Ev.bind radd ?_
  refine Ev.bind (RSame_f _ (by omega) (by omega)) ?_
  refine Ev.congr (fun k => ?c1) (Ev.bind (f := ?F1) mul ?d1)
  case c1 => rw [if_pos rfl]
  refine Ev.bind rmul ?_
  refine Ev.bind (RSame_f _ (by omega) (by omega)) ?_
  by_cases h : VB 4294967296 a < VB 4294967296 b
  · have hc : cmpN (VB 4294967296 a) (VB 4294967296 b) = -1 := by unfold cmpN; rw [if_pos h]
    rw [hc, if_pos h]
    refine Ev.congr (fun k => ?c2) (Ev.bind (f := ?F2) lives_f ?d2)
    case c2 =>
      have e0 : ((([] : List Int).length : Nat) : Int) = 0 := rfl
      rw [if_pos rfl]
      dsimp only
      rw [if_pos (by decide), if_pos (by decide), if_pos e0]
    exact Ev.now _
  · have hc : ¬ (cmpN (VB 4294967296 a) (VB 4294967296 b) < 0) := by unfold cmpN; rw [if_neg h]; split <;> omega
    have rsub := RSub_f (VB 4294967296 a) (VB 4294967296 b) (by omega) (by omega)
    have lD := len16 (VB 4294967296 a - VB 4294967296 b) 20 (Nat.lt_of_le_of_lt (Nat.sub_le _ _) HA.out)
    rw [if_neg h]
    refine Ev.congr (fun k => ?c3) (Ev.bind (f := ?F3) rsub ?d3)
    case c3 =>
      rw [if_pos rfl]
      dsimp only
      rw [decide_eq_false hc, if_pos (by decide), if_neg hc]
    refine Ev.bind (RSame_f _ (by omega) (by omega)) ?_
    refine Ev.congr (fun k => ?c4) (Ev.bind (f := ?F4) lives_f ?d4)
    case c4 => rw [if_pos rfl]
    exact Ev.now _
end Go.Proofs.Ytafhcchjjlbojaa.Pure
