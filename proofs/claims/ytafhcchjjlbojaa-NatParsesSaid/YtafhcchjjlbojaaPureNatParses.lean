/- The law NatParses, told of numbers: a text is read as by the reference. -/
import Derived.Test.YtafhcchjjlbojaaNum
import Derived.Test.YtafhcchjjlbojaaStr
import Derived.Test.YtafhcchjjlbojaaNatL
import Derived.Test.YtafhcchjjlbojaaNatM
import Derived.Test.YtafhcchjjlbojaaRefA
import Derived.Test.YtafhcchjjlbojaaRefF
import Derived.Test.YtafhcchjjlbojaaNatQ
import Derived.Test.YtafhcchjjlbojaaZNatgLaw3
import Derived.Test.YtafhcchjjlbojaaZNatgParse
import Derived.Test.YtafhcchjjlbojaaZNatgRParse
import Derived.Test.YtafhcchjjlbojaaZNatgRTrim
import Derived.Test.YtafhcchjjlbojaaZNatgzelligelaw03NatParses
namespace Go.Proofs.Ytafhcchjjlbojaa.Pure
open Go.RowKit Go.Proofs.YtafhcchjjlbojaaW.PrintWords Go.Proofs.YtafhcchjjlbojaaW.PrintLast Go.Proofs.YtafhcchjjlbojaaW.PrintMore Go.Proofs.Ytafhcchjjlbojaa.Num Go.Proofs.Ytafhcchjjlbojaa.ZNat Go.Proofs.Ytafhcchjjlbojaa.ZNatP
set_option linter.unusedVariables false
set_option linter.unusedSimpArgs false

theorem dec_lt (n k j : Nat) (h : n < 10 ^ k) (hk : k ≤ 2 * j) : n < 4294967296 ^ j := by
  refine Nat.lt_of_lt_of_le h (Nat.le_trans (Nat.pow_le_pow_right (by omega) hk) ?_)
  rw [Nat.pow_mul]
  exact Nat.pow_le_pow_left (by decide) j
theorem NatParses_j0 (s : ByteArray) (hs : s.size ≤ 2100) : Ev (fun k => zelligelaw03_NatParses.j0 k s) true := by
  have h1 := Parse_f s (by omega)
  have h2 := RParse_f s (by omega)
  have hsz := bytesOf_length s
  have key : ∃ n e, parseR 4294967296 (bytesOf s) = (NB 4294967296 n, e) ∧ parseR 65536 (bytesOf s) = (NB 65536 n, e) ∧ ∃ k, k ≤ 2000 ∧ n < 10 ^ k := by
    unfold parseR
    by_cases h : okS (bytesOf s) ∧ formS (bytesOf s)
    · rw [if_pos h, if_pos h]
      by_cases hl : (bytesOf s).length ≤ 2000
      · rw [if_pos hl, if_pos hl]
        exact ⟨_, _, rfl, rfl, _, hl, valS_lt h.1⟩
      · rw [if_neg hl, if_neg hl]
        exact ⟨0, 5, by rw [NB_zero], by rw [NB_zero], 0, by omega, by simp⟩
    · rw [if_neg h, if_neg h]
      exact ⟨0, 4, by rw [NB_zero], by rw [NB_zero], 0, by omega, by simp⟩
  obtain ⟨n, e, k1, k2, k3, k4, k5⟩ := key
  rw [k1] at h1
  rw [k2] at h2
  have ln := len16 n 1000 (dec_lt n k3 1000 k5 (by omega))
  clear k5
  refine Ev.step (f := fun k => (nat_Parse.f k s).bind fun bt599 => ((zelligeref03_Parse.f k s).bind fun bt603 => ((zelligeref03_Same.f k bt599.1 bt603.1).bind fun t607 => (if t607 = true then (if bt599.2 = bt603.2 then ((zelligelaw03_lives.f k).bind fun t608 => (some t608)) else (some false)) else (some false))))) (fun k => rfl) ?_
  refine Ev.bind h1 ?_
  refine Ev.bind h2 ?_
  refine Ev.bind (RSame_f _ (by omega) (by omega)) ?_
  refine Ev.congr (fun k => ?c1) (Ev.bind (f := ?F1) lives_f ?d1)
  case c1 => rw [if_pos rfl, if_pos rfl]
  exact Ev.now _
theorem NatParses : zelligelaw03_NatParses.Pure := by
  intro s hs
  apply Ev.rounds
  unfold zelligelaw03_NatParses.f
  by_cases h : (s.size : Int) > 2100
  · refine Ev.congr (fun k => ?_) (NatParses_j0 (s.extract 0 2100) (by simp; omega))
    rw [if_pos h, if_pos (by omega), if_pos (by omega)]
  · refine Ev.congr (fun k => ?_) (NatParses_j0 s (by omega))
    rw [if_neg h]
end Go.Proofs.Ytafhcchjjlbojaa.Pure
