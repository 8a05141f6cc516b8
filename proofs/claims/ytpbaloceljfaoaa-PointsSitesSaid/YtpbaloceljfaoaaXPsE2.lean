import Derived.Test.YtpbaloceljfaoaaLt
import Derived.Test.YtpbaloceljfaoaaXPsE
set_option linter.unusedVariables false
set_option linter.unusedSimpArgs false
namespace Go.Proofs.Ytpbaloceljfaoaa.ZRat
open Go.RowKit Go.Proofs.Ytpbaloceljfaoaa.Wd
open Go Go.Proofs.Ytpbaloceljfaoaa.Ab Go.Proofs
set_option linter.unusedSimpArgs false
set_option linter.unusedVariables false
set_option maxHeartbeats 8000000
set_option maxRecDepth 100000
theorem rs_bad1 {a0 : Int} {r1 : List G3} {N : Nat} (hc : r1.length ≤ 50) (hN : N < r1.length) (b1 : (gAt r1 N).1 < 0) : AEnds E_RSites (finW Try.prog Try.f6.results) 0 (atLoop Try.f6 5) (C_RS a0 r1 N) (.tup [.row 0 [], .int .i64 18]) := by
  have hl := lenG r1
  have c1 := chunkG hN
  have c0 := cellG0 hN
  have g0 := getE c0
  have c01 := cellG1 hN
  have g1 := getE c01
  have c02 := cellG2 hN
  have g2 := getE c02
  have hLl := seqG_len (Nat.le_of_lt hN)
  have lL := lenG (seqG r1 N)
  simp only [atLoop, Try.f6, seek, firstR, Option.getD_some, C_RS]
  generalize r1.flatMap cG = D at *
  generalize gAt r1 N = v at *
  generalize seqG r1 N = L at *
  rcases lC_cases L with ⟨eL, e0⟩ | eL
  · rw [eL]
    subst e0
    simp (maxSteps := 4000000) (disch := (first | with_reducible rfl | assumption | omega | (simp only [List.length_append, List.length_map, List.length_cons, List.length_nil, List.length_set, List.length_replicate, List.length_take, List.size_toArray]; omega))) [E_RSites, hl, hN, c0, g0, c01, g1, c02, g2, c1, lL, decLr, nilOp, rowG, b1]
  · rw [eL]
    simp (maxSteps := 4000000) (disch := (first | with_reducible rfl | assumption | omega | (simp only [List.length_append, List.length_map, List.length_cons, List.length_nil, List.length_set, List.length_replicate, List.length_take, List.size_toArray]; omega))) [E_RSites, hl, hN, c0, g0, c01, g1, c02, g2, c1, lL, decLr, nilOp, rowG, b1]
theorem rs_bad2 {a0 : Int} {r1 : List G3} {N : Nat} (hc : r1.length ≤ 50) (hN : N < r1.length) (b1 : ¬ (gAt r1 N).1 < 0) (b2 : 16777216 ≤ (gAt r1 N).1) : AEnds E_RSites (finW Try.prog Try.f6.results) 0 (atLoop Try.f6 5) (C_RS a0 r1 N) (.tup [.row 0 [], .int .i64 18]) := by
  have hl := lenG r1
  have c1 := chunkG hN
  have c0 := cellG0 hN
  have g0 := getE c0
  have c01 := cellG1 hN
  have g1 := getE c01
  have c02 := cellG2 hN
  have g2 := getE c02
  have hLl := seqG_len (Nat.le_of_lt hN)
  have lL := lenG (seqG r1 N)
  simp only [atLoop, Try.f6, seek, firstR, Option.getD_some, C_RS]
  generalize r1.flatMap cG = D at *
  generalize gAt r1 N = v at *
  generalize seqG r1 N = L at *
  rcases lC_cases L with ⟨eL, e0⟩ | eL
  · rw [eL]
    subst e0
    simp (maxSteps := 4000000) (disch := (first | with_reducible rfl | assumption | omega | (simp only [List.length_append, List.length_map, List.length_cons, List.length_nil, List.length_set, List.length_replicate, List.length_take, List.size_toArray]; omega))) [E_RSites, hl, hN, c0, g0, c01, g1, c02, g2, c1, lL, decLr, nilOp, rowG, b1, b2]
  · rw [eL]
    simp (maxSteps := 4000000) (disch := (first | with_reducible rfl | assumption | omega | (simp only [List.length_append, List.length_map, List.length_cons, List.length_nil, List.length_set, List.length_replicate, List.length_take, List.size_toArray]; omega))) [E_RSites, hl, hN, c0, g0, c01, g1, c02, g2, c1, lL, decLr, nilOp, rowG, b1, b2]
end Go.Proofs.Ytpbaloceljfaoaa.ZRat
