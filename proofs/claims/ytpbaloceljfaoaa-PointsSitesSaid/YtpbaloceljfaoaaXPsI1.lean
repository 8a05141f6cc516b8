import Derived.Test.YtpbaloceljfaoaaLt
import Derived.Test.YtpbaloceljfaoaaXPsI
set_option linter.unusedVariables false
set_option linter.unusedSimpArgs false
namespace Go.Proofs.Ytpbaloceljfaoaa.ZRat
open Go.RowKit Go.Proofs.Ytpbaloceljfaoaa.Wd
open Go Go.Proofs.Ytpbaloceljfaoaa.Ab Go.Proofs
set_option linter.unusedSimpArgs false
set_option linter.unusedVariables false
set_option maxHeartbeats 8000000
set_option maxRecDepth 100000
theorem ps_round0 {a0 : Int} {r1 : List G3} (hc : r1.length ≤ 10) (hi : 0 < r1.length) (b1 : ¬ (gAt r1 0).1 < 0) (b2 : ¬ 16777216 ≤ (gAt r1 0).1) (b4 : ¬ (gAt r1 0).2.1 < 0) (b5 : ¬ a0 ≤ (gAt r1 0).2.1) (b6 : ¬ (gAt r1 0).2.2 < 0) (b7 : ¬ a0 ≤ (gAt r1 0).2.2) {r : AV} (IH : AEnds E_PSites (finW Try.prog Try.f5.results) 0 (atLoop Try.f5 6) (C_P1 a0 r1 (0 + 1)) r) : AEnds E_PSites (finW Try.prog Try.f5.results) 0 (atLoop Try.f5 6) (C_P0 a0 r1) r := by
  have c1 := chunkG (i := 0) hi
  have hl := lenG r1
  have hlt : ((0 : Int) < (r1.length : Int)) = True := eq_true (by omega)
  simp only [Nat.zero_mul, List.drop_zero] at c1
  have ws : True := trivial
  simp only [atLoop, Try.f5, seek, firstR, Option.getD_some, C_P0, C_P1] at IH ⊢
  rw [take_succ hi] at IH
  simp only [List.map_append, List.map_cons, List.map_nil, List.flatMap_append, List.flatMap_cons, List.flatMap_nil, List.append_nil, cG, m1, m2, List.take_zero, List.map_nil, List.flatMap_nil, List.nil_append] at IH
  generalize r1.flatMap cG = D at *
  generalize gAt r1 0 = v at *
  simp (maxSteps := 4000000) (disch := (first | with_reducible rfl | assumption | omega | (simp only [List.length_append, List.length_map, List.length_cons, List.length_nil, List.length_set, List.length_replicate, List.length_take, List.size_toArray]; omega))) [E_PSites, hl, hi, c1, hlt, nilOp, b1, b2, b4, b5, b6, b7]
  refine again_of ?_ IH
  simp only [E_PSites, firstR, mkQ_keep, keepT, List.find?, Nat.reduceBEq, Option.map_some, Option.getD_some]
  simp (maxSteps := 4000000) (disch := (first | with_reducible rfl | assumption | omega | (simp only [List.length_append, List.length_map, List.length_cons, List.length_nil, List.length_set, List.length_replicate, List.length_take, List.size_toArray]; omega))) [E_PSites]
end Go.Proofs.Ytpbaloceljfaoaa.ZRat
