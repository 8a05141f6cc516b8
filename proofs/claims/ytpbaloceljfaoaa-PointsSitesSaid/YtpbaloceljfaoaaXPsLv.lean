import Derived.Test.YtpbaloceljfaoaaLt
import Derived.Test.YtpbaloceljfaoaaKr
set_option linter.unusedVariables false
set_option linter.unusedSimpArgs false
namespace Go.Proofs.Ytpbaloceljfaoaa.ZRat
open Go.RowKit Go.Proofs.Ytpbaloceljfaoaa.Wd
open Go Go.Proofs.Ytpbaloceljfaoaa.Ab Go.Proofs
set_option linter.unusedSimpArgs false
set_option linter.unusedVariables false
set_option maxHeartbeats 8000000
set_option maxRecDepth 100000
noncomputable def L23lives_env : Nat → FuncId → Env := envT [8, 15, 19, 18, 30, 39, 38, 42, 37, 31, 40] [19, 18] [] [(15, [(5, [0, 6, 7, 8])]), (30, [(4, [0, 1, 9, 15, 16, 17])]), (39, [(2, [0, 1, 5])]), (31, [(10, [0, 1, 9, 10])])] []
def L23lives : List AV → Option AV
  | [] => some (.bool true)
  | _ => none
theorem run_L23lives : bodyV (L23lives_env 40 8) 40 Try.f8 [] = some (.bool true) := by kernel_rfl
theorem sL23lives : GoodS (8, L23lives) := by
  intro xs r h
  simp only at h
  unfold L23lives at h
  split at h
  · cases h
    exact .inl (okV_kr (by kernel_rfl) alls_nil (by kernel_rfl) Try.func8 run_L23lives)
  · cases h
attribute [simp] L23lives
end Go.Proofs.Ytpbaloceljfaoaa.ZRat
