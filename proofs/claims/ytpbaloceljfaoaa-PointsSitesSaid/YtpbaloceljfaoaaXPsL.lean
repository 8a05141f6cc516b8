import Derived.Test.YtpbaloceljfaoaaLt
import Derived.Test.YtpbaloceljfaoaaXPsLv
import Derived.Test.YtpbaloceljfaoaaXPsA
import Derived.Test.YtpbaloceljfaoaaXPsB
import Derived.Test.YtpbaloceljfaoaaXPsE6
import Derived.Test.YtpbaloceljfaoaaXPsM
import Derived.Test.YtpbaloceljfaoaaXPsM
import Derived.Test.YtpbaloceljfaoaaXPsLv
set_option linter.unusedVariables false
set_option linter.unusedSimpArgs false
namespace Go.Proofs.Ytpbaloceljfaoaa.ZRat
open Go.RowKit Go.Proofs.Ytpbaloceljfaoaa.Wd
open Go Go.Proofs.Ytpbaloceljfaoaa.Ab Go.Proofs
set_option linter.unusedSimpArgs false
set_option linter.unusedVariables false
set_option maxHeartbeats 8000000
set_option maxRecDepth 100000
noncomputable def E_PointsSites : Env := mkQ [(4, PFew), (5, PSites), (6, RSites), (7, MSame), (8, L23lives)] [] [] []
theorem run_PointsSites (a0 : Int) (r1 : List G3) : AEnds E_PointsSites (finW Try.prog Try.f3.results) 0 [.code (Try.f3.body.getD .skip)] (startA Try.f3 [.int .i64 a0, rowG r1] [] []) (.bool true) := by
  simp only [Try.f3, Option.getD_some, startA]
  have hb : (r1.take 10).length ≤ 10 := by rw [List.length_take]; omega
  have hb2 : (r1.take 10).length ≤ 50 := by omega
  obtain ⟨R, hR⟩ : ∃ R, r1.take 10 = R := ⟨_, rfl⟩
  rw [hR] at hb hb2
  have hmin : min 10 r1.length = R.length := by rw [← hR, List.length_take]
  have hS : ∃ (S : List G3) (k : Int), sitesR a0 R = .tup [.row S.length (S.flatMap cG), .int .i64 k] ∧ S.length ≤ 100 := by
    unfold sitesR
    split
    · exact ⟨_, 0, rfl, by rw [seqG_len (Nat.le_refl _)]; omega⟩
    · exact ⟨[], 18, rfl, by simp⟩
  obtain ⟨S, k, eS, hS⟩ := hS
  have dR := decG R
  have dS := decG S
  unfold rowG
  simp (maxSteps := 4000000) (disch := (first | with_reducible rfl | assumption | omega | (simp only [List.length_append, List.length_map, List.length_cons, List.length_nil, List.length_set, List.length_replicate, List.length_take, List.size_toArray]; omega))) [E_PointsSites, hR, hmin, hb, hb2, eS, hS, dR, dS, nilOp, rowG]
theorem law_PointsSites (a0 : Int) (r1 : List G3) : OkV Try.prog 3 [.int .i64 a0, rowG r1] (.bool true) :=
  okW_ends (mkQ_ok (alls_cons sPFew (alls_cons sPSites (alls_cons sRSites (alls_cons sMSame (alls_cons sL23lives alls_nil))))) allq_nil) mixed Try.func3 rfl (by kernel_rfl : Fits Try.prog E_PointsSites.ref E_PointsSites.dep Try.f3 = true) (run_PointsSites _ _)
end Go.Proofs.Ytpbaloceljfaoaa.ZRat
