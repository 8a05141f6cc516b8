/- What the printed functions of nat come to, told of numbers: the laws' own check that the package works; the order. -/
import Derived.Test.YtafhcchjjlbojaaNum
import Derived.Test.YtafhcchjjlbojaaStr
import Derived.Test.YtafhcchjjlbojaaNatB
import Derived.Test.YtafhcchjjlbojaaNatJ
import Derived.Test.YtafhcchjjlbojaaNatK
import Derived.Test.YtafhcchjjlbojaaNatL
import Derived.Test.YtafhcchjjlbojaaZNatgLaw3
namespace Go.Proofs.Ytafhcchjjlbojaa.ZNatP
open Go.RowKit Go.Proofs.YtafhcchjjlbojaaW.PrintWords Go.Proofs.YtafhcchjjlbojaaW.PrintLast Go.Proofs.YtafhcchjjlbojaaW.PrintMore Go.Proofs.Ytafhcchjjlbojaa.Num Go.Proofs.Ytafhcchjjlbojaa.ZNat
set_option linter.unusedVariables false
set_option linter.unusedSimpArgs false

theorem dec_thirds : NB 10 33333333333333333333 = List.replicate 20 3 := by
  have h := NB_of_len (b := 10) (by omega) (List.replicate 20 3) (by intro x hx; rw [List.eq_of_mem_replicate hx]; omega) (.inr (by decide +kernel))
  rwa [show VB 10 (List.replicate 20 3) = 33333333333333333333 from by decide +kernel] at h
theorem dec_one : NB 10 1 = [1] := by
  have h := NB_of_len (b := 10) (by omega) [1] (by intro x hx; rw [List.mem_singleton.1 hx]; omega) (.inr (by decide +kernel))
  rwa [show VB 10 [1] = 1 from by decide +kernel] at h
theorem lives_f : Ev (fun k => zelligelaw03_lives.f k) true := by
  unfold zelligelaw03_lives.f
  have hb : bytesOf (⟨#[49, 48, 48, 48, 48, 48, 48, 48, 48, 48, 48, 48, 48, 48, 48, 48, 48, 48, 48, 48, 48]⟩ : ByteArray) = [49, 48, 48, 48, 48, 48, 48, 48, 48, 48, 48, 48, 48, 48, 48, 48, 48, 48, 48, 48, 48] := by decide +kernel
  have h1 := Parse_f (⟨#[49, 48, 48, 48, 48, 48, 48, 48, 48, 48, 48, 48, 48, 48, 48, 48, 48, 48, 48, 48, 48]⟩ : ByteArray) (by decide +kernel)
  have hv : valS [49, 48, 48, 48, 48, 48, 48, 48, 48, 48, 48, 48, 48, 48, 48, 48, 48, 48, 48, 48, 48] = 100000000000000000000 := by decide +kernel
  have hp : parseR 4294967296 [49, 48, 48, 48, 48, 48, 48, 48, 48, 48, 48, 48, 48, 48, 48, 48, 48, 48, 48, 48, 48] = (NB 4294967296 100000000000000000000, 0) := by
    unfold parseR
    rw [if_pos ⟨by unfold okS; decide +kernel, by decide, fun e => by revert e; decide +kernel⟩, if_pos (by decide), hv]
  rw [hb, hp] at h1
  refine Ev.bind h1 ?_
  refine Ev.bind (Of_f 3 (by omega) (by omega)) ?_
  have l1 : (NB 4294967296 100000000000000000000).length ≤ 3 := NB_length_le (by omega) _ _ (by decide +kernel)
  have l2 : (NB 4294967296 3).length ≤ 1 := NB_length_le (by omega) _ _ (by decide +kernel)
  have h2 := DivMod_f (NB 4294967296 100000000000000000000) (NB 4294967296 3) (WB_NB _ _) (WB_NB _ _) (by omega) (by omega)
  rw [VB_NB (by omega), VB_NB (by omega), if_neg (by decide)] at h2
  refine Ev.bind h2 ?_
  dsimp only
  have e1 : (100000000000000000000 / 3 : Nat) = 33333333333333333333 := by decide +kernel
  have e2 : (100000000000000000000 % 3 : Nat) = 1 := by decide +kernel
  rw [e1, e2]
  have l3 : (NB 4294967296 33333333333333333333).length ≤ 3 := NB_length_le (by omega) _ _ (by decide +kernel)
  have l4 : (NB 4294967296 1).length ≤ 1 := NB_length_le (by omega) _ _ (by decide +kernel)
  have h3 := Show_f (NB 4294967296 33333333333333333333) (WB_NB _ _) (by omega)
  have h4 := Show_f (NB 4294967296 1) (WB_NB _ _) (by omega)
  rw [VB_NB (by omega)] at h3 h4
  have d3 : (showS 33333333333333333333).toList = ([51, 51, 51, 51, 51, 51, 51, 51, 51, 51, 51, 51, 51, 51, 51, 51, 51, 51, 51, 51] : List UInt8) := by
    rw [toList_data]
    unfold showS decS
    rw [if_neg (by decide), dec_thirds]
    decide +kernel
  have d4 : (showS 1).toList = ([49] : List UInt8) := by
    rw [toList_data]
    unfold showS decS
    rw [if_neg (by decide), dec_one]
    decide +kernel
  refine Ev.congr (fun k => ?c) (Ev.bind (f := ?F) h3 ?d)
  case c =>
    rw [if_pos rfl, if_pos rfl]
  case d =>
    refine Ev.congr (fun k => ?c2) (Ev.bind (f := ?F2) h4 ?d2)
    case c2 => rw [if_pos d3]
    case d2 =>
      rw [d4]
      exact Ev.now _
end Go.Proofs.Ytafhcchjjlbojaa.ZNatP
