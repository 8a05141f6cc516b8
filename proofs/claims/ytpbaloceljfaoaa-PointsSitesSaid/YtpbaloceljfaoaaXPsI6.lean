import Derived.Test.YtpbaloceljfaoaaLt
import Derived.Test.YtpbaloceljfaoaaXPsI
set_option linter.unusedVariables false
set_option linter.unusedSimpArgs false
namespace Go.Proofs.Ytpbaloceljfaoaa.ZRat
open Go.RowKit Go.Proofs.Ytpbaloceljfaoaa.Wd
open Go Go.Proofs.Ytpbaloceljfaoaa.Ab Go.Proofs
set_option linter.unusedSimpArgs false
set_option linter.unusedVariables false
set_option maxHeartbeats 8000000
set_option maxRecDepth 100000
theorem ps_bad0_6 {a0 : Int} {r1 : List G3} (hc : r1.length ≤ 10) (hi : 0 < r1.length) (b1 : ¬ (gAt r1 0).1 < 0) (b2 : ¬ 16777216 ≤ (gAt r1 0).1) (b4 : ¬ (gAt r1 0).2.1 < 0) (b5 : ¬ a0 ≤ (gAt r1 0).2.1) (b6 : (gAt r1 0).2.2 < 0) : AEnds E_PSites (finW Try.prog Try.f5.results) 0 (atLoop Try.f5 6) (C_P0 a0 r1) (.tup [.row 0 [], .int .i64 18]) := by
  have c1 := chunkG (i := 0) hi
  have hl := lenG r1
  have hlt : ((0 : Int) < (r1.length : Int)) = True := eq_true (by omega)
  simp only [Nat.zero_mul, List.drop_zero] at c1
  
  simp only [atLoop, Try.f5, seek, firstR, Option.getD_some, C_P0, C_P1]
  generalize r1.flatMap cG = D at *
  generalize gAt r1 0 = v at *
  simp (maxSteps := 4000000) (disch := (first | with_reducible rfl | assumption | omega | (simp only [List.length_append, List.length_map, List.length_cons, List.length_nil, List.length_set, List.length_replicate, List.length_take, List.size_toArray]; omega))) [E_PSites, hl, hi, c1, hlt, nilOp, b1, b2, b4, b5, b6]
theorem ps_bad1_4 {a0 : Int} {r1 : List G3} {i : Nat} (h1 : 1 ≤ i) (hc : r1.length ≤ 10) (hi : i < r1.length) (b1 : ¬ (gAt r1 i).1 < 0) (b2 : ¬ 16777216 ≤ (gAt r1 i).1) (f1 : findA Try.prog 3 (.int .i64 (gAt r1 i).1) ((r1.take i).map m1) 0 = some none) (b4 : (gAt r1 i).2.1 < 0) : AEnds E_PSites (finW Try.prog Try.f5.results) 0 (atLoop Try.f5 6) (C_P1 a0 r1 i) (.tup [.row 0 [], .int .i64 18]) := by
  have c1 := chunkG hi
  have hl := lenG r1
  have hlt : ((i : Int) < (r1.length : Int)) = True := eq_true (by omega)
  
  simp only [atLoop, Try.f5, seek, firstR, Option.getD_some, C_P0, C_P1]
  have hM : ((r1.take i).flatMap cG).length = i * 3 := by rw [lenG, List.length_take, Nat.min_eq_left (Nat.le_of_lt hi)]
  generalize r1.flatMap cG = D at *
  generalize gAt r1 i = v at *
  generalize (r1.take i).map m1 = M1 at *
  generalize (r1.take i).map m2 = M2 at *
  generalize (r1.take i).flatMap cG = O at *
  simp (maxSteps := 4000000) (disch := (first | with_reducible rfl | assumption | omega | (simp only [List.length_append, List.length_map, List.length_cons, List.length_nil, List.length_set, List.length_replicate, List.length_take, List.size_toArray]; omega))) [E_PSites, hl, hi, c1, hlt, nilOp, b1, b2, f1, b4, hM]
end Go.Proofs.Ytpbaloceljfaoaa.ZRat
