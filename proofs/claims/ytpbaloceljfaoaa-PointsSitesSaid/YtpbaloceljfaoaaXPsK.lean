import Derived.Test.YtpbaloceljfaoaaLt
import Derived.Test.YtpbaloceljfaoaaXPsF
import Derived.Test.YtpbaloceljfaoaaXPsH
import Derived.Test.YtpbaloceljfaoaaXPsH
import Derived.Test.YtpbaloceljfaoaaXPsE6
set_option linter.unusedVariables false
set_option linter.unusedSimpArgs false
namespace Go.Proofs.Ytpbaloceljfaoaa.ZRat
open Go.RowKit Go.Proofs.Ytpbaloceljfaoaa.Wd
open Go Go.Proofs.Ytpbaloceljfaoaa.Ab Go.Proofs
set_option linter.unusedSimpArgs false
set_option linter.unusedVariables false
set_option maxHeartbeats 8000000
set_option maxRecDepth 100000
noncomputable def QInsN : List AV → List Blk → List Bool → Option (AV × List Blk × List Bool)
  | [.nil, .int .i64 0, .int .i64 0, .fn 10], [], [] => some (.tup [], [], [])
  | _, _, _ => none
noncomputable def E_QInsN : Env := mkQ [(10, MCmp)] [] [(1, [0, 1, 2, 3, 8]), (4, [0, 1, 2, 3, 8, 9])] []
theorem run_QInsN (u : Bool) : AEnds E_QInsN (finR Try.prog Try.f20.results) 0 [.code (Try.f20.body.getD .skip)] (startA Try.f20 [.nil, .int .i64 0, .int .i64 0, .fn 10] [] []) (.tup [], [], []) := by
  simp only [Try.f20, Option.getD_some, startA]
  simp (maxSteps := 4000000) (disch := (first | with_reducible rfl | assumption | omega | (simp only [List.length_append, List.length_map, List.length_cons, List.length_nil, List.length_set, List.length_replicate, List.length_take, List.size_toArray]; omega))) [E_QInsN]
  refine .loop ?_
  simp only [E_QInsN, firstR, mkQ_keep, keepT, List.find?, Nat.reduceBEq, Option.map_some, Option.getD_some]
  simp (maxSteps := 4000000) (disch := (first | with_reducible rfl | assumption | omega | (simp only [List.length_append, List.length_map, List.length_cons, List.length_nil, List.length_set, List.length_replicate, List.length_take, List.size_toArray]; omega))) [E_QInsN]
theorem qQInsN : GoodQ (20, QInsN) := by
  intro xs h z r h' z' hr
  simp only at hr
  unfold QInsN at hr
  split at hr
  · skip
    cases hr
    exact okR_ends (mkQ_ok (alls_cons sMCmp alls_nil) allq_nil) mixed Try.func20 rfl (by kernel_rfl : Fits Try.prog E_QInsN.ref E_QInsN.dep Try.f20 = true) (run_QInsN true)
  · cases hr
attribute [simp] QInsN
noncomputable def QPdqN : List AV → List Blk → List Bool → Option (AV × List Blk × List Bool)
  | [.nil, .int .i64 0, .int .i64 0, .int .i64 v, .fn 10], [], [] => some (.tup [], [.dead], [false])
  | _, _, _ => none
noncomputable def E_QPdqN : Env := mkQ [] [(20, QInsN)] [(2, [0, 1, 2, 3, 4, 10, 11])] []
theorem run_QPdqN (v : Int) : AEnds E_QPdqN (finR Try.prog Try.f16.results) 0 [.code (Try.f16.body.getD .skip)] (startA Try.f16 [.nil, .int .i64 0, .int .i64 0, .int .i64 v, .fn 10] [] []) (.tup [], [.dead], [false]) := by
  simp only [Try.f16, Option.getD_some, startA]
  simp (maxSteps := 4000000) (disch := (first | with_reducible rfl | assumption | omega | (simp only [List.length_append, List.length_map, List.length_cons, List.length_nil, List.length_set, List.length_replicate, List.length_take, List.size_toArray]; omega))) [E_QPdqN]
  refine .loop ?_
  simp only [E_QPdqN, firstR, mkQ_keep, keepT, List.find?, Nat.reduceBEq, Option.map_some, Option.getD_some]
  simp (maxSteps := 4000000) (disch := (first | with_reducible rfl | assumption | omega | (simp only [List.length_append, List.length_map, List.length_cons, List.length_nil, List.length_set, List.length_replicate, List.length_take, List.size_toArray]; omega))) [E_QPdqN]
theorem qQPdqN : GoodQ (16, QPdqN) := by
  intro xs h z r h' z' hr
  simp only at hr
  unfold QPdqN at hr
  split at hr
  · skip
    cases hr
    exact okR_ends (mkQ_ok alls_nil (allq_cons qQInsN allq_nil)) mixed Try.func16 rfl (by kernel_rfl : Fits Try.prog E_QPdqN.ref E_QPdqN.dep Try.f16 = true) (run_QPdqN _)
  · cases hr
attribute [simp] QPdqN
noncomputable def QSFn : List AV → List Blk → List Bool → Option (AV × List Blk × List Bool)
  | [.nil, .fn 10], [], [] => some (.tup [], [.dead], [false])
  | _, _, _ => none
noncomputable def E_QSFn : Env := mkQ [(17, BLen)] [(16, QPdqN)] [] []
theorem run_QSFn (u : Bool) : AEnds E_QSFn (finR Try.prog Try.f9.results) 0 [.code (Try.f9.body.getD .skip)] (startA Try.f9 [.nil, .fn 10] [] []) (.tup [], [.dead], [false]) := by
  simp only [Try.f9, Option.getD_some, startA]
  have hu : IntKind.u64.wrap 0 = 0 := by decide +kernel
  simp (maxSteps := 4000000) (disch := (first | with_reducible rfl | assumption | omega | (simp only [List.length_append, List.length_map, List.length_cons, List.length_nil, List.length_set, List.length_replicate, List.length_take, List.size_toArray]; omega))) [E_QSFn, hu]
theorem qQSFn : GoodQ (9, QSFn) := by
  intro xs h z r h' z' hr
  simp only at hr
  unfold QSFn at hr
  split at hr
  · skip
    cases hr
    exact okR_ends (mkQ_ok (alls_cons sBLen alls_nil) (allq_cons qQPdqN allq_nil)) mixed Try.func9 rfl (by kernel_rfl : Fits Try.prog E_QSFn.ref E_QSFn.dep Try.f9 = true) (run_QSFn true)
  · cases hr
attribute [simp] QSFn
noncomputable def QSFx (xs : List AV) (h : List Blk) (z : List Bool) : Option (AV × List Blk × List Bool) := match QSF xs h z with | some r => some r | none => QSFn xs h z
theorem qQSFx : GoodQ (9, QSFx) := by
  intro xs h z r h' z' hr
  simp only at hr
  unfold QSFx at hr
  split at hr
  · rename_i e; cases hr; exact qQSF _ _ _ _ _ _ e
  · exact qQSFn _ _ _ _ _ _ hr
attribute [simp] QSFx
end Go.Proofs.Ytpbaloceljfaoaa.ZRat
