/- What the printed functions of nat come to, told of numbers: gcd. -/
import Derived.Test.YtafhcchjjlbojaaNum
import Derived.Test.YtafhcchjjlbojaaNatA
import Derived.Test.YtafhcchjjlbojaaNatJ
import Derived.Test.YtafhcchjjlbojaaZNatgGcd
namespace Go.Proofs.Ytafhcchjjlbojaa.ZNatP
open Go.RowKit Go.Proofs.YtafhcchjjlbojaaW.PrintWords Go.Proofs.YtafhcchjjlbojaaW.PrintLast Go.Proofs.YtafhcchjjlbojaaW.PrintMore Go.Proofs.Ytafhcchjjlbojaa.Num Go.Proofs.Ytafhcchjjlbojaa.ZNat
set_option linter.unusedVariables false
set_option linter.unusedSimpArgs false

theorem Gcd_l0 : ∀ (j m n : Nat), n < j → (NB 4294967296 m).length < 35184372088830 → (NB 4294967296 n).length < 35184372088830 →
    Ev (fun k => nat_Gcd.l0 k (NB 4294967296 m) (NB 4294967296 n)) (NB 4294967296 (Nat.gcd m n)) := by
  intro j
  induction j with
  | zero => intro m n h; omega
  | succ j ih =>
    intro m n h lm ln
    rcases Nat.eq_zero_or_pos n with h0 | h0
    · subst h0
      rw [Nat.gcd_zero_right]
      refine Ev.step (f := fun _ => some (NB 4294967296 m)) (fun k => ?_) (Ev.now _)
      show nat_Gcd.l0 (k + 1) _ _ = _
      simp only [nat_Gcd.l0]
      rw [NB_zero, if_neg (by simp)]
    · have hne : (NB 4294967296 n).length ≠ 0 := fun e => by
        have := (NB_len0 (b := 4294967296) (by omega) n).1 e
        omega
      have h1 := divmod_f (NB 4294967296 m) n h0 (WB_NB _ _) lm ln (by rw [VB_NB (by omega)])
      rw [VB_NB (by omega)] at h1
      have hml := Nat.mod_lt m h0
      have hll : (NB 4294967296 (m % n)).length ≤ (NB 4294967296 n).length := NB_length_mono (by omega) (by omega)
      rw [Nat.gcd_comm, Nat.gcd_rec, Nat.gcd_comm]
      refine Ev.step (fun k => ?c) (Ev.bind (f := ?F) h1 ?d)
      case c =>
        show nat_Gcd.l0 (k + 1) _ _ = _
        simp only [nat_Gcd.l0]
        rw [if_pos (by omega)]
      case d =>
        exact ih n (m % n) (by omega) ln (by omega)
theorem Gcd_f (a b : List Int) (ha : WB 4294967296 a) (hb : WB 4294967296 b) (la : a.length < 35184372088830) (lb : b.length < 35184372088830) :
    Ev (fun k => nat_Gcd.f k a b) (NB 4294967296 (Nat.gcd (VB 4294967296 a) (VB 4294967296 b))) := by
  unfold nat_Gcd.f
  have l1 := NBV_len (b := 4294967296) (by omega) ha
  have l2 := NBV_len (b := 4294967296) (by omega) hb
  refine Ev.bind (trim_f a ha (by omega)) ?_
  refine Ev.congr (fun k => ?c) (Ev.bind (f := ?F) (trim_f b hb (by omega)) ?d)
  case c =>
    rw [clone_f _ (by omega), Option.bind_some]
  case d =>
    refine Ev.congr (fun k => ?_) (Gcd_l0 _ _ _ (Nat.lt_succ_self _) (by omega) (by omega))
    rw [clone_f _ (by omega), Option.bind_some]
end Go.Proofs.Ytafhcchjjlbojaa.ZNatP
