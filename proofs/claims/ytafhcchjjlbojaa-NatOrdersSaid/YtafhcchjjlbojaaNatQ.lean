/- What lengths the reference's digits have, from a bound of the number. -/
import Derived.Test.YtafhcchjjlbojaaNum
import Derived.Test.YtafhcchjjlbojaaRefA
namespace Go.Proofs.Ytafhcchjjlbojaa.ZNatP
open Go.RowKit Go.Proofs.YtafhcchjjlbojaaW.PrintWords Go.Proofs.YtafhcchjjlbojaaW.PrintLast Go.Proofs.YtafhcchjjlbojaaW.PrintMore Go.Proofs.Ytafhcchjjlbojaa.Num Go.Proofs.Ytafhcchjjlbojaa.ZNat
set_option linter.unusedVariables false
set_option linter.unusedSimpArgs false

theorem len16 (n j : Nat) (h : n < 4294967296 ^ j) : (NB 65536 n).length ≤ 2 * j ∧ (NB 4294967296 n).length ≤ j := by
  constructor
  · refine NB_length_le (by omega) _ _ ?_
    rw [pow_16]
    exact h
  · exact NB_length_le (by omega) _ _ h
theorem len16_of (a : List Int) (j : Nat) (h : WB 4294967296 a) (hl : a.length ≤ j) : (NB 65536 (VB 4294967296 a)).length ≤ 2 * j ∧ (NB 4294967296 (VB 4294967296 a)).length ≤ j :=
  len16 _ _ (Nat.lt_of_lt_of_le (VB_lt (by omega) h) (Nat.pow_le_pow_right (by omega) hl))
theorem len16_le (m n j : Nat) (h : m ≤ n) (hl : (NB 65536 n).length ≤ 2 * j ∧ (NB 4294967296 n).length ≤ j) : (NB 65536 m).length ≤ 2 * j ∧ (NB 4294967296 m).length ≤ j := by
  have h1 := NB_length_mono (b := 65536) (by omega) h
  have h2 := NB_length_mono (b := 4294967296) (by omega) h
  omega
end Go.Proofs.Ytafhcchjjlbojaa.ZNatP
