/- How many bits a number takes: plain law. -/
import Derived.Test.YtafhcchjjlbojaaNum
namespace Go.Proofs.Ytafhcchjjlbojaa.ZNatP
open Go.RowKit Go.Proofs.YtafhcchjjlbojaaW.PrintWords Go.Proofs.YtafhcchjjlbojaaW.PrintLast Go.Proofs.YtafhcchjjlbojaaW.PrintMore Go.Proofs.Ytafhcchjjlbojaa.Num
set_option linter.unusedVariables false
set_option linter.unusedSimpArgs false

/-- How many bits a number takes. -/
def nbits (m : Nat) : Nat := if m = 0 then 0 else Nat.log2 m + 1
theorem nbits_half (m : Nat) (h : 0 < m) : nbits m = nbits (m / 2) + 1 := by
  unfold nbits
  rw [if_neg (by omega), Nat.log2_def]
  split
  · rw [if_neg (by omega)]
  · rw [if_pos (by omega)]
theorem nbits_lt (m : Nat) : m < 2 ^ nbits m := by
  unfold nbits
  split
  · rename_i h; subst h; simp
  · exact Nat.lt_log2_self
theorem nbits_of (m k : Nat) (h1 : 2 ^ k ≤ m) (h2 : m < 2 ^ (k + 1)) : nbits m = k + 1 := by
  have h0 : m ≠ 0 := by have := Nat.two_pow_pos k; omega
  unfold nbits
  rw [if_neg h0, (Nat.log2_eq_iff h0).2 ⟨h1, h2⟩]
end Go.Proofs.Ytafhcchjjlbojaa.ZNatP
