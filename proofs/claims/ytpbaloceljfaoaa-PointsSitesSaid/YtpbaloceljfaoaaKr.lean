/- Runs at fixed arguments, told by the kernel. -/
import Derived.Test.YtpbaloceljfaoaaLt
set_option linter.unusedVariables false
set_option linter.unusedSimpArgs false
namespace Go.Proofs.Ytpbaloceljfaoaa.ZRat
open Go.RowKit Go.Proofs.Ytpbaloceljfaoaa.Wd
open Go Go.Proofs.Ytpbaloceljfaoaa.Ab Go.Proofs
set_option linter.unusedSimpArgs false
set_option linter.unusedVariables false
noncomputable def tabT {α : Type} : List (FuncId × List α) → FuncId → List α
  | [], _ => []
  | (g, l) :: r, f => if g = f then l else tabT r f
noncomputable def primT : List (FuncId × (List AV → Option AV)) → FuncId → Option (List AV → Option AV)
  | [], _ => none
  | (g, s) :: L, f => if g = f then some s else primT L f
/-- All calls of some functions, down to a depth; some of them are told. -/
noncomputable def envT (fs rf : List FuncId) (L : List (FuncId × (List AV → Option AV))) (kt : List (FuncId × List (Nat × List Nat))) (dt : List (FuncId × List (Nat × List (List Nat × List Nat × Bool)))) : Nat → FuncId → Env
  | 0, f => ⟨Try.prog, fun g => rf.contains g, fun _ _ => none, fun _ _ _ _ => none, keepT (tabT kt f), depT (tabT dt f), fun _ _ => none⟩
  | k + 1, f => ⟨Try.prog, fun g => rf.contains g,
      fun g xs => match primT L g with
        | some s => s (xs.map wk)
        | none => if fs.contains g then (match Try.prog.funcs[g]? with | some fn => bodyV (envT fs rf L kt dt k g) k fn xs | none => none) else none,
      fun g xs h z => if fs.contains g then (match Try.prog.funcs[g]? with | some fn => body (envT fs rf L kt dt k g) k fn xs h z | none => none) else none,
      keepT (tabT kt f), depT (tabT dt f), fun _ _ => none⟩
theorem primT_mem {L : List (FuncId × (List AV → Option AV))} {f : FuncId} {s : List AV → Option AV} (h : primT L f = some s) : (f, s) ∈ L := by
  induction L with
  | nil => simp [primT] at h
  | cons a L ih =>
    obtain ⟨g, t⟩ := a
    simp only [primT] at h
    split at h
    · rename_i e; cases h; subst e; simp
    · exact List.mem_cons_of_mem _ (ih h)
noncomputable def fitsT (fs rf : List FuncId) (dt : List (FuncId × List (Nat × List (List Nat × List Nat × Bool)))) : Bool := fs.all fun f => match Try.prog.funcs[f]? with | some fn => Fits Try.prog (fun g => rf.contains g) (depT (tabT dt f)) fn | none => true
theorem fitsT_of {fs rf : List FuncId} {dt : List (FuncId × List (Nat × List (List Nat × List Nat × Bool)))} (h : fitsT fs rf dt = true) {f : FuncId} {fn : Func} (hf : fs.contains f = true) (hp : Try.prog.funcs[f]? = some fn) : Fits Try.prog (fun g => rf.contains g) (depT (tabT dt f)) fn = true := by
  have := List.all_eq_true.1 h f (by simpa using hf)
  rw [hp] at this
  exact this
theorem envT_ok {fs rf : List FuncId} {L : List (FuncId × (List AV → Option AV))} {kt : List (FuncId × List (Nat × List Nat))} {dt : List (FuncId × List (Nat × List (List Nat × List Nat × Bool)))} (hfit : fitsT fs rf dt = true) (hL : ∀ p ∈ L, GoodS p) : ∀ (k : Nat) (f : FuncId), EnvOk (envT fs rf L kt dt k f) Try.prog
  | 0, f => ⟨rfl, fun _ _ _ h => by simp [envT] at h, fun _ _ _ _ _ _ _ h => by simp [envT] at h, fun _ _ _ h => by simp [envT] at h⟩
  | k + 1, f => by
    have ih := fun g => envT_ok (L := L) (kt := kt) hfit hL k g
    have hr : ∀ g, (envT fs rf L kt dt k g).ref = fun g => rf.contains g := fun g => by cases k <;> rfl
    have hd : ∀ g, (envT fs rf L kt dt k g).dep = depT (tabT dt g) := fun g => by cases k <;> rfl
    refine ⟨rfl, fun g us r h => ?_, fun g us hh z r h' z' h => ?_, fun _ _ _ h => by simp [envT] at h⟩
    · simp only [envT] at h
      split at h
      · rename_i s hs
        exact OkF.wkA (hL _ (primT_mem hs) _ _ h)
      · split at h
        · rename_i hc
          cases hg : Try.prog.funcs[g]? with
          | none => simp [hg] at h
          | some fn =>
            simp only [hg] at h
            exact .inl (okV_body (ih g) mixed hg (by rw [hr, hd]; exact fitsT_of hfit hc hg) h)
        · cases h
    · simp only [envT] at h
      split at h
      · rename_i hc
        cases hg : Try.prog.funcs[g]? with
        | none => simp [hg] at h
        | some fn =>
          simp only [hg] at h
          exact okR_body (ih g) mixed hg (by rw [hr, hd]; exact fitsT_of hfit hc hg) h
      · cases h
/-- What a function gives at fixed arguments, by the kernel's run. -/
theorem okV_kr {fs rf : List FuncId} {L : List (FuncId × (List AV → Option AV))} {kt : List (FuncId × List (Nat × List Nat))} {dt : List (FuncId × List (Nat × List (List Nat × List Nat × Bool)))} {k : Nat} {f : FuncId} {fn : Func} {xs : List AV} {r : AV} (hfit : fitsT fs rf dt = true) (hL : ∀ p ∈ L, GoodS p) (hf : fs.contains f = true) (hp : Try.prog.funcs[f]? = some fn)
    (hb : bodyV (envT fs rf L kt dt k f) k fn xs = some r) : OkV Try.prog f xs (wk r) :=
  have hr : (envT fs rf L kt dt k f).ref = fun g => rf.contains g := by cases k <;> rfl
  have hd : (envT fs rf L kt dt k f).dep = depT (tabT dt f) := by cases k <;> rfl
  OkV.wkR (okV_body (envT_ok hfit hL k f) mixed hp (by rw [hr, hd]; exact fitsT_of hfit hf hp) hb)
end Go.Proofs.Ytpbaloceljfaoaa.ZRat
