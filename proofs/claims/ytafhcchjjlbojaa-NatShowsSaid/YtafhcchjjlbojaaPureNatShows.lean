/- The law NatShows, told of numbers: any number's digits are those of the reference, and they are read as the number; so is any number of 64 bits. -/
import Derived.Test.YtafhcchjjlbojaaNum
import Derived.Test.YtafhcchjjlbojaaStr
import Derived.Test.YtafhcchjjlbojaaNatB
import Derived.Test.YtafhcchjjlbojaaNatK
import Derived.Test.YtafhcchjjlbojaaNatL
import Derived.Test.YtafhcchjjlbojaaNatM
import Derived.Test.YtafhcchjjlbojaaNatN
import Derived.Test.YtafhcchjjlbojaaRefA
import Derived.Test.YtafhcchjjlbojaaRefE
import Derived.Test.YtafhcchjjlbojaaNatQ
import Derived.Test.YtafhcchjjlbojaaZNatgzelligelaw03NatShows
namespace Go.Proofs.Ytafhcchjjlbojaa.Pure
open Go.RowKit Go.Proofs.YtafhcchjjlbojaaW.PrintWords Go.Proofs.YtafhcchjjlbojaaW.PrintLast Go.Proofs.YtafhcchjjlbojaaW.PrintMore Go.Proofs.Ytafhcchjjlbojaa.Num Go.Proofs.Ytafhcchjjlbojaa.ZNat Go.Proofs.Ytafhcchjjlbojaa.ZNatP
set_option linter.unusedVariables false
set_option linter.unusedSimpArgs false

theorem lt_dec (n j k : Nat) (h : n < 4294967296 ^ j) (hk : 10 * j ≤ k) : n < 10 ^ k := by
  refine Nat.lt_of_lt_of_le h (Nat.le_trans (Nat.pow_le_pow_left (show 4294967296 ≤ 10 ^ 10 by decide) j) ?_)
  rw [← Nat.pow_mul]
  exact Nat.pow_le_pow_right (by omega) hk
theorem VB_len (a : List Int) (j : Nat) (ha : WB 4294967296 a) (la : a.length ≤ j) : VB 4294967296 a < 4294967296 ^ j :=
  Nat.lt_of_lt_of_le (VB_lt (by omega) ha) (Nat.pow_le_pow_right (by omega) la)
theorem showS_lim (a : List Int) (ha : WB 4294967296 a) (la : a.length ≤ 20) : VB 4294967296 a < 10 ^ 2000 :=
  lt_dec _ 20 2000 (VB_len a 20 ha la) (by omega)
theorem showS_size (n : Nat) (h : n < 10 ^ 2000) : (showS n).size ≤ 2000 := by
  rw [← bytesOf_length, bytesOf_showS]
  exact decS_len n 2000 (by omega) h
theorem NatShows : zelligelaw03_NatShows.Pure := by
  intro l0 n _ _ h0 h1
  apply Ev.rounds
  unfold zelligelaw03_NatShows.f
  have wa := WB_take (WB_wf h0) 20
  have la := take20 l0
  have eq1 := short_law l0
  generalize l0.take 20 = a at *
  have lA := len16_of a 20 wa la
  have hlim := showS_lim a wa la
  have hsz := showS_size _ hlim
  have hp := Parse_f (showS (VB 4294967296 a)) (by omega)
  rw [bytesOf_showS, parseR_decS _ _ hlim] at hp
  clear hlim
  simp [Lit.wf, IntKind.min, IntKind.max, IntKind.bits, IntKind.signed] at h1
  have hW : WB 4294967296 [n % 4294967296, n / 4294967296 % 4294967296] := by
    intro x hx
    simp only [List.mem_cons, List.not_mem_nil, or_false] at hx
    omega
  have hv : VB 4294967296 [n % 4294967296, n / 4294967296 % 4294967296] = n.toNat := by
    simp only [VB]
    omega
  have ro := ROf_f _ hW (by simp)
  rw [hv] at ro
  have ln := len16_of _ 2 hW (by simp)
  rw [hv] at ln
  refine Ev.congr (fun k => ?c0) (Ev.bind (f := ?F0) (Show_f a wa (by omega)) ?d0)
  case c0 => rw [eq1, Option.bind_some]
  refine Ev.bind hp ?_
  refine Ev.bind (ROf_f a wa (by omega)) ?_
  refine Ev.bind (RShow_f _ (by omega)) ?_
  refine Ev.congr (fun k => if_pos rfl) ?_
  refine Ev.bind (ROf_f a wa (by omega)) ?_
  refine Ev.bind (RSame_f _ (by omega) (by omega)) ?_
  refine Ev.congr (fun k => ?c1) (Ev.bind (f := ?F1) (Of_f n (by omega) (by omega)) ?d1)
  case c1 => rw [if_pos rfl, if_pos rfl]
  refine Ev.bind ro ?_
  refine Ev.bind (RSame_f _ (by omega) (by omega)) ?_
  refine Ev.congr (fun k => if_pos rfl) ?_
  refine Ev.bind lives_f ?_
  exact Ev.now _
end Go.Proofs.Ytafhcchjjlbojaa.Pure
