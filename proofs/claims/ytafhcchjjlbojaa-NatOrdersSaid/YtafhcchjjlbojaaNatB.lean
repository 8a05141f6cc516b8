/- What the printed functions of nat come to, told of numbers: a small number. -/
import Derived.Test.YtafhcchjjlbojaaNum
import Derived.Test.YtafhcchjjlbojaaNatA
import Derived.Test.YtafhcchjjlbojaaZNatgParse
namespace Go.Proofs.Ytafhcchjjlbojaa.ZNatP
open Go.RowKit Go.Proofs.YtafhcchjjlbojaaW.PrintWords Go.Proofs.YtafhcchjjlbojaaW.PrintLast Go.Proofs.YtafhcchjjlbojaaW.PrintMore Go.Proofs.Ytafhcchjjlbojaa.Num Go.Proofs.Ytafhcchjjlbojaa.ZNat
set_option linter.unusedVariables false
set_option linter.unusedSimpArgs false

theorem Of_f (n : Int) (h0 : 0 ≤ n) (h1 : n < 18446744073709551616) : Ev (fun k => nat_Of.f k n) (NB 4294967296 n.toNat) := by
  unfold nat_Of.f
  have hW : WB 4294967296 [n % 4294967296, n / 4294967296 % 4294967296] := by
    intro x hx
    simp only [List.mem_cons, List.not_mem_nil, or_false] at hx
    omega
  have hv : VB 4294967296 [n % 4294967296, n / 4294967296 % 4294967296] = n.toNat := by
    simp only [VB]
    omega
  have h2 := NBV_len (by omega) hW
  have h3 := trim_own_f _ hW (by simp)
  rw [hv] at h2 h3
  simp only [List.length_cons, List.length_nil] at h2
  refine Ev.bind h3 ?_
  refine Ev.congr (fun k => ?_) (Ev.now _)
  rw [clone_f _ (by omega)]
  rfl
end Go.Proofs.Ytafhcchjjlbojaa.ZNatP
