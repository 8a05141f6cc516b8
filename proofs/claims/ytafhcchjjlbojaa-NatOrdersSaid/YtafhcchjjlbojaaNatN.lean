/- What the laws of nat have in common: their arguments' words, the first twenty of them. -/
import Derived.Test.YtafhcchjjlbojaaNum
import Derived.Test.YtafhcchjjlbojaaZNatgLaw3
namespace Go.Proofs.Ytafhcchjjlbojaa.ZNatP
open Go.RowKit Go.Proofs.YtafhcchjjlbojaaW.PrintWords Go.Proofs.YtafhcchjjlbojaaW.PrintLast Go.Proofs.YtafhcchjjlbojaaW.PrintMore Go.Proofs.Ytafhcchjjlbojaa.Num Go.Proofs.Ytafhcchjjlbojaa.ZNat
set_option linter.unusedVariables false
set_option linter.unusedSimpArgs false

theorem WB_wf {l : List Int} (h : ∀ x ∈ l, (Lit.int .u32 x).wf = true) : WB 4294967296 l := by
  intro x hx
  have := h x hx
  simp [Lit.wf, IntKind.min, IntKind.max, IntKind.bits, IntKind.signed] at this
  omega
theorem short_law (l : List Int) : zelligelaw03_short.f l = some (l.take 20) := by
  unfold zelligelaw03_short.f
  by_cases h : (l.length : Int) > 20
  · have hl : (l.take 20).length = 20 := by rw [List.length_take]; omega
    rw [if_pos h, if_pos (by omega), Option.bind_some, Option.bind_some, if_pos (by rw [hl]; simp), List.nil_append]
  · have hl : l.take 20 = l := List.take_of_length_le (by omega)
    rw [if_neg h, Option.bind_some, if_pos (by simp; omega), List.nil_append, hl]
theorem take20 (l : List Int) : (l.take 20).length ≤ 20 := by rw [List.length_take]; omega
theorem cmpN_self (n : Nat) : cmpN n n = 0 := by unfold cmpN; rw [if_neg (by omega), if_neg (by omega)]
end Go.Proofs.Ytafhcchjjlbojaa.ZNatP
