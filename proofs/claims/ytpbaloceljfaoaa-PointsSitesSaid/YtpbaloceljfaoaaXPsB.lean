import Derived.Test.YtpbaloceljfaoaaLt
import Derived.Test.YtpbaloceljfaoaaXPsA
set_option linter.unusedVariables false
set_option linter.unusedSimpArgs false
namespace Go.Proofs.Ytpbaloceljfaoaa.ZRat
open Go.RowKit Go.Proofs.Ytpbaloceljfaoaa.Wd
open Go Go.Proofs.Ytpbaloceljfaoaa.Ab Go.Proofs
set_option linter.unusedSimpArgs false
set_option linter.unusedVariables false
set_option maxHeartbeats 8000000
set_option maxRecDepth 100000
theorem getE {L : List AV} {i : Nat} {x : AV} (h : L[i]? = some x) : ∀ q, L[i]'q = x := fun q => (List.getElem?_eq_some_iff.1 h).2
/-- An engine's sites: none, or a row. -/
noncomputable def decL : AV → Option (List G3)
  | .nil => some []
  | x => dec rowG x
theorem decL_out {x : AV} {l : List G3} (h : decL x = some l) : (x = .nil ∧ l = []) ∨ x = rowG l := by
  unfold decL at h
  split at h
  · cases h; exact .inl ⟨rfl, rfl⟩
  · exact .inr (dec_out h)
theorem decL_row (l : List G3) : decL (.row l.length (l.flatMap cG)) = some l := decG l
theorem decL_nil : decL .nil = some [] := rfl
attribute [simp] decL_row decL_nil
def idxG (l : List G3) (p : G3 → Bool) : Int := match l.findIdx? p with | some i => i | none => -1
/-- Where the first one is. -/
theorem idxG_spec (l : List G3) (p : G3 → Bool) : (∃ N, N < l.length ∧ p (gAt l N) = true ∧ (∀ i, i < N → p (gAt l i) = false) ∧ idxG l p = N) ∨ ((∀ i, i < l.length → p (gAt l i) = false) ∧ idxG l p = -1) := by
  unfold idxG
  cases h : l.findIdx? p with
  | none =>
    right
    rw [List.findIdx?_eq_none_iff] at h
    refine ⟨fun i hi => ?_, rfl⟩
    have := h (gAt l i) (List.mem_of_getElem? (gAt_get hi))
    simpa using this
  | some N =>
    left
    rw [List.findIdx?_eq_some_iff_getElem] at h
    obtain ⟨h1, h2, h3⟩ := h
    have e : ∀ i (hi : i < l.length), gAt l i = l[i] := fun i hi => by
      have := gAt_get hi
      rw [List.getElem?_eq_getElem hi] at this
      exact (Option.some.inj this).symm
    refine ⟨N, h1, by rw [e N h1]; exact h2, fun i hi => ?_, rfl⟩
    have := h3 i hi
    rw [e i (by omega)]
    simpa using this
open Classical in
noncomputable def MSame : List AV → Option AV
  | [x0, x1] => (dec rowG x0).bind fun r0 => (dec rowG x1).bind fun r1 => if r0 = r1 ∧ r0.length ≤ 100 then some (.bool true) else none
  | _ => none
noncomputable def E_MSame : Env := mkQ [] [] [(4, [0, 1, 5])] []
theorem run_MSame (r0 : List G3) (r1 : List G3) (hc : r0 = r1 ∧ r0.length ≤ 100) : AEnds E_MSame (finW Try.prog Try.f7.results) 0 [.code (Try.f7.body.getD .skip)] (startA Try.f7 [rowG r0, rowG r1] [] []) (.bool true) := by
  simp only [Try.f7, Option.getD_some, startA]
  obtain ⟨rfl, hb⟩ := hc
  have hl := lenG r0
  unfold rowG
  simp (maxSteps := 4000000) (disch := (first | with_reducible rfl | assumption | omega | (simp only [List.length_append, List.length_map, List.length_cons, List.length_nil, List.length_set, List.length_replicate, List.length_take, List.size_toArray]; omega))) [E_MSame, hl]
  let C : Nat → AS := fun i => ⟨[.row r0.length (r0.flatMap cG), .row r0.length (r0.flatMap cG), .any, .any, .any, .int .i64 i, .any, .any, .any, .any, .any, .any, .any, .any, .any, .any, .any, .any, .any, .any, .any, .any, .any, .any, .any, .any], [], []⟩
  refine loop_up C r0.length ?_ (fun i hi IH => ?_) ?_
  · simp only [E_MSame, firstR, mkQ_keep, keepT, List.find?, Nat.reduceBEq, Option.map_some, Option.getD_some]
    simp (maxSteps := 4000000) (disch := (first | with_reducible rfl | assumption | omega | (simp only [List.length_append, List.length_map, List.length_cons, List.length_nil, List.length_set, List.length_replicate, List.length_take, List.size_toArray]; omega))) [E_MSame, C]
  · have c1 := chunkG hi
    have ws : wrap64 ((i : Int) + 1) = ((i + 1 : Nat) : Int) := wsucc (by omega)
    simp only [C] at IH ⊢
    generalize r0.flatMap cG = D at *
    simp (maxSteps := 4000000) (disch := (first | with_reducible rfl | assumption | omega | (simp only [List.length_append, List.length_map, List.length_cons, List.length_nil, List.length_set, List.length_replicate, List.length_take, List.size_toArray]; omega))) [E_MSame, hl, hi, c1, ws, nilOp]
    refine again_of ?_ IH
    simp only [E_MSame, firstR, mkQ_keep, keepT, List.find?, Nat.reduceBEq, Option.map_some, Option.getD_some]
    simp (maxSteps := 4000000) (disch := (first | with_reducible rfl | assumption | omega | (simp only [List.length_append, List.length_map, List.length_cons, List.length_nil, List.length_set, List.length_replicate, List.length_take, List.size_toArray]; omega))) [E_MSame]
  · simp only [C]
    simp (maxSteps := 4000000) (disch := (first | with_reducible rfl | assumption | omega | (simp only [List.length_append, List.length_map, List.length_cons, List.length_nil, List.length_set, List.length_replicate, List.length_take, List.size_toArray]; omega))) [E_MSame, hl]
theorem sMSame : GoodS (7, MSame) := by
  intro xs r h
  simp only at h
  unfold MSame at h
  split at h
  · obtain ⟨r0, h0, h⟩ := Option.bind_eq_some_iff.1 h
    obtain ⟨r1, h1, h⟩ := Option.bind_eq_some_iff.1 h
    split at h
    · rename_i hc
      cases h
      obtain rfl := dec_out h0
      obtain rfl := dec_out h1
      exact .inl <| okW_ends (mkQ_ok alls_nil allq_nil) mixed Try.func7 rfl (by kernel_rfl : Fits Try.prog E_MSame.ref E_MSame.dep Try.f7 = true) (run_MSame _ _ hc)
    · cases h
  · cases h
attribute [simp] MSame
end Go.Proofs.Ytpbaloceljfaoaa.ZRat
