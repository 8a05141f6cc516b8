import Derived.Test.YtpbaloceljfaoaaLt
import Derived.Test.YtpbaloceljfaoaaXPsE
set_option linter.unusedVariables false
set_option linter.unusedSimpArgs false
namespace Go.Proofs.Ytpbaloceljfaoaa.ZRat
open Go.RowKit Go.Proofs.Ytpbaloceljfaoaa.Wd
open Go Go.Proofs.Ytpbaloceljfaoaa.Ab Go.Proofs
set_option linter.unusedSimpArgs false
set_option linter.unusedVariables false
set_option maxHeartbeats 8000000
set_option maxRecDepth 100000
theorem decG0 : dec rowG (.row 0 []) = some [] := decG []
attribute [simp] decG0
theorem rs_round {a0 : Int} {r1 : List G3} {i : Nat} {r : AV} (hc : r1.length ≤ 50) (hi : i < r1.length) (hok : okI a0 r1 i) (IH : AEnds E_RSites (finW Try.prog Try.f6.results) 0 (atLoop Try.f6 5) (C_RS a0 r1 (i + 1)) r) : AEnds E_RSites (finW Try.prog Try.f6.results) 0 (atLoop Try.f6 5) (C_RS a0 r1 i) r := by
  have hl := lenG r1
  have c1 := chunkG hi
  have c0 := cellG0 hi
  have g0 := getE c0
  have c01 := cellG1 hi
  have g1 := getE c01
  have c02 := cellG2 hi
  have g2 := getE c02
  have hLl := seqG_len (Nat.le_of_lt hi)
  have lL := lenG (seqG r1 i)
  have hsu := seqG_succ hi
  have ws : wrap64 ((i : Int) + 1) = ((i + 1 : Nat) : Int) := wsucc (by omega)
  obtain ⟨⟨k1, k2⟩, k3, ⟨k4, k5, k6, k7⟩, k8⟩ := hok
  have q1 : idxG (seqG r1 i) (fun p => p.1 == (gAt r1 i).1) = -1 := by
    rcases idx_seq r1 i (Nat.le_of_lt hi) (fun p => p.1 == (gAt r1 i).1) with ⟨-, k, hk, hp⟩ | ⟨h, -⟩
    · exact (k3 k hk (by simpa using hp)).elim
    · exact h
  have q2 : idxG (seqG r1 i) (fun p => p.2.1 == (gAt r1 i).2.1 && p.2.2 == (gAt r1 i).2.2) = -1 := by
    rcases idx_seq r1 i (Nat.le_of_lt hi) (fun p => p.2.1 == (gAt r1 i).2.1 && p.2.2 == (gAt r1 i).2.2) with ⟨-, k, hk, hp⟩ | ⟨h, -⟩
    · exact (k8 k hk (by simpa using hp)).elim
    · exact h
  simp only [atLoop, Try.f6, seek, firstR, Option.getD_some, C_RS] at IH ⊢
  rw [hsu, lC_put] at IH
  simp only [rowG] at IH
  clear hsu k3 k8
  generalize r1.flatMap cG = D at *
  generalize gAt r1 i = v at *
  generalize seqG r1 i = L at *
  have n1 : ¬ v.1 < 0 := by omega
  have n2 : ¬ 16777216 ≤ v.1 := by omega
  rcases lC_cases L with ⟨eL, e0⟩ | eL
  · rw [eL]
    subst e0
    simp (maxSteps := 4000000) (disch := (first | with_reducible rfl | assumption | omega | (simp only [List.length_append, List.length_map, List.length_cons, List.length_nil, List.length_set, List.length_replicate, List.length_take, List.size_toArray]; omega))) [E_RSites, hl, hi, c0, g0, c01, g1, c02, g2, c1, lL, decLr, nilOp, rowG, k1, k2, k4, k5, k6, k7, q1, q2, n1, n2, ws]
    refine again_of ?_ IH
    simp only [E_RSites, firstR, mkQ_keep, keepT, List.find?, Nat.reduceBEq, Option.map_some, Option.getD_some]
    simp (maxSteps := 4000000) (disch := (first | with_reducible rfl | assumption | omega | (simp only [List.length_append, List.length_map, List.length_cons, List.length_nil, List.length_set, List.length_replicate, List.length_take, List.size_toArray]; omega))) [E_RSites, decLr]
  · rw [eL]
    simp (maxSteps := 4000000) (disch := (first | with_reducible rfl | assumption | omega | (simp only [List.length_append, List.length_map, List.length_cons, List.length_nil, List.length_set, List.length_replicate, List.length_take, List.size_toArray]; omega))) [E_RSites, hl, hi, c0, g0, c01, g1, c02, g2, c1, lL, decLr, nilOp, rowG, k1, k2, k4, k5, k6, k7, q1, q2, n1, n2, ws]
    refine again_of ?_ IH
    simp only [E_RSites, firstR, mkQ_keep, keepT, List.find?, Nat.reduceBEq, Option.map_some, Option.getD_some]
    simp (maxSteps := 4000000) (disch := (first | with_reducible rfl | assumption | omega | (simp only [List.length_append, List.length_map, List.length_cons, List.length_nil, List.length_set, List.length_replicate, List.length_take, List.size_toArray]; omega))) [E_RSites, decLr]
end Go.Proofs.Ytpbaloceljfaoaa.ZRat
