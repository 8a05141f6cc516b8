import Derived.Test.YtpbaloceljfaoaaLt
import Derived.Test.YtpbaloceljfaoaaXPsC
set_option linter.unusedVariables false
set_option linter.unusedSimpArgs false
namespace Go.Proofs.Ytpbaloceljfaoaa.ZRat
open Go.RowKit Go.Proofs.Ytpbaloceljfaoaa.Wd
open Go Go.Proofs.Ytpbaloceljfaoaa.Ab Go.Proofs
set_option linter.unusedSimpArgs false
set_option linter.unusedVariables false
set_option maxHeartbeats 8000000
set_option maxRecDepth 100000
/-- A site, put among others in order. -/
def putG : List G3 → G3 → List G3
  | [], x => [x]
  | a :: l, x => if x.1 < a.1 then x :: a :: l else a :: putG l x
def stG (x : G3) : List G3 → List G3 × Bool
  | [] => ([], false)
  | l => (l.foldl (fun o a => if o.2 = false ∧ x.1 < a.1 then (o.1 ++ [x, a], true) else (o.1 ++ [a], o.2)) ([], false))
theorem putG_len (l : List G3) (x : G3) : (putG l x).length = l.length + 1 := by
  induction l with
  | nil => rfl
  | cons a l ih =>
    simp only [putG]
    split
    · simp
    · simp [ih]
/-- How far the list that is made has come. -/
def preG (x : G3) (l : List G3) (i : Nat) : List G3 × Bool := (l.take i).foldl (fun o a => if o.2 = false ∧ x.1 < a.1 then (o.1 ++ [x, a], true) else (o.1 ++ [a], o.2)) ([], false)
theorem preG_succ (x : G3) {l : List G3} {i : Nat} (h : i < l.length) : preG x l (i + 1) = (if (preG x l i).2 = false ∧ x.1 < (gAt l i).1 then ((preG x l i).1 ++ [x, gAt l i], true) else ((preG x l i).1 ++ [gAt l i], (preG x l i).2)) := by
  unfold preG
  rw [List.take_add_one, gAt_get h, Option.toList_some, List.foldl_append]
  rfl
theorem pre_in (x : G3) (l : List G3) (o : List G3) : l.foldl (fun o a => if o.2 = false ∧ x.1 < a.1 then (o.1 ++ [x, a], true) else (o.1 ++ [a], o.2)) (o, true) = (o ++ l, true) := by
  induction l generalizing o with
  | nil => simp
  | cons a l ih => simp only [List.foldl_cons, Bool.true_eq_false, false_and, if_false]; rw [ih]; simp
theorem pre_all (x : G3) (l : List G3) (o : List G3) : (let r := l.foldl (fun o a => if o.2 = false ∧ x.1 < a.1 then (o.1 ++ [x, a], true) else (o.1 ++ [a], o.2)) (o, false); if r.2 then r.1 else r.1 ++ [x]) = o ++ putG l x := by
  induction l generalizing o with
  | nil => simp [putG]
  | cons a l ih =>
    simp only [List.foldl_cons, true_and, putG]
    split
    · rw [pre_in]; simp
    · have := ih (o ++ [a])
      simp only at this
      rw [this]; simp
theorem preG_all (x : G3) (l : List G3) : (if (preG x l l.length).2 then (preG x l l.length).1 else (preG x l l.length).1 ++ [x]) = putG l x := by
  have := pre_all x l []
  simpa [preG] using this
theorem preG_len (x : G3) (l : List G3) : ∀ i, i ≤ l.length → (preG x l i).1.length ≤ 2 * i
  | 0, _ => by simp [preG]
  | i + 1, h => by
    have ih := preG_len x l i (by omega)
    rw [preG_succ x (by omega)]
    split <;> simp <;> omega
noncomputable def QSite : List AV → List Blk → List Bool → Option (AV × List Blk × List Bool)
  | [.ptr 0 0, .agg [.int .i64 d, .int .i64 f]], [.obj [.int .i64 n, .int .i64 m, x]], [z0] => some (.bool (decide (0 ≤ d ∧ d < n ∧ 0 ≤ f ∧ f < n)), [.obj [.int .i64 n, .int .i64 m, x], .arr [.int .i64 d, .int .i64 f]], [z0, false])
  | _, _, _ => none
noncomputable def E_QSite : Env := mkQ [] [] [] []
theorem run_QSite (x : AV) (n m d f : Int) (z0 : Bool) : AEnds E_QSite (finR Try.prog Try.f12.results) 1 [.code (Try.f12.body.getD .skip)] (startA Try.f12 [.ptr 0 0, .agg [.int .i64 d, .int .i64 f]] [.obj [.int .i64 n, .int .i64 m, x]] [z0]) (.bool (decide (0 ≤ d ∧ d < n ∧ 0 ≤ f ∧ f < n)), [.obj [.int .i64 n, .int .i64 m, x], .arr [.int .i64 d, .int .i64 f]], [z0, false]) := by
  simp only [Try.f12, Option.getD_some, startA]
  by_cases h1 : 0 ≤ d
  · by_cases h2 : d < n
    · by_cases h3 : 0 ≤ f
      · simp (maxSteps := 4000000) (disch := (first | with_reducible rfl | assumption | omega | (simp only [List.length_append, List.length_map, List.length_cons, List.length_nil, List.length_set, List.length_replicate, List.length_take, List.size_toArray]; omega))) [E_QSite, h1, h2, h3]
      · simp (maxSteps := 4000000) (disch := (first | with_reducible rfl | assumption | omega | (simp only [List.length_append, List.length_map, List.length_cons, List.length_nil, List.length_set, List.length_replicate, List.length_take, List.size_toArray]; omega))) [E_QSite, h1, h2, h3]
    · simp (maxSteps := 4000000) (disch := (first | with_reducible rfl | assumption | omega | (simp only [List.length_append, List.length_map, List.length_cons, List.length_nil, List.length_set, List.length_replicate, List.length_take, List.size_toArray]; omega))) [E_QSite, h1, h2]
  · simp (maxSteps := 4000000) (disch := (first | with_reducible rfl | assumption | omega | (simp only [List.length_append, List.length_map, List.length_cons, List.length_nil, List.length_set, List.length_replicate, List.length_take, List.size_toArray]; omega))) [E_QSite, h1]
theorem qQSite : GoodQ (12, QSite) := by
  intro xs h z r h' z' hr
  simp only at hr
  unfold QSite at hr
  split at hr
  · skip
    cases hr
    exact okR_ends (mkQ_ok alls_nil allq_nil) mixed Try.func12 rfl (by kernel_rfl : Fits Try.prog E_QSite.ref E_QSite.dep Try.f12 = true) (run_QSite _ _ _ _ _ _)
  · cases hr
attribute [simp] QSite
open Classical in
noncomputable def MPut : List AV → Option AV
  | [x0, x1] => (dec rowG x0).bind fun r0 => (agg3 x1).bind fun ⟨x1_, y1_, z1_⟩ => if r0.length ≤ 100 then some (rowG (putG r0 (x1_, y1_, z1_))) else none
  | _ => none
noncomputable def E_MPut : Env := mkQ [] [] [(3, [0, 3, 5, 6, 7])] []
theorem run_MPut (r0 : List G3) (x1_ y1_ z1_ : Int) (hc : r0.length ≤ 100) : AEnds E_MPut (finW Try.prog Try.f14.results) 0 [.code (Try.f14.body.getD .skip)] (startA Try.f14 [rowG r0, .agg [.int .i64 x1_, .int .i64 y1_, .int .i64 z1_]] [] []) (rowG (putG r0 (x1_, y1_, z1_))) := by
  simp only [Try.f14, Option.getD_some, startA]
  have hall := preG_all (x1_, y1_, z1_) r0
  have hl := lenG r0
  rw [← hall]
  have hsu := fun i (h : i < r0.length) => preG_succ (x1_, y1_, z1_) h
  have hln := preG_len (x1_, y1_, z1_) r0
  have hp0 : preG (x1_, y1_, z1_) r0 0 = ([], false) := rfl
  unfold rowG
  simp (maxSteps := 4000000) (disch := (first | with_reducible rfl | assumption | omega | (simp only [List.length_append, List.length_map, List.length_cons, List.length_nil, List.length_set, List.length_replicate, List.length_take, List.size_toArray]; omega))) [E_MPut, hl]
  let C : Nat → AS := fun i => ⟨[.row r0.length (r0.flatMap cG), .any, .any, .ptr 0 0, .any, .own 1 0 (preG (x1_, y1_, z1_) r0 i).1.length 3, .bool (preG (x1_, y1_, z1_) r0 i).2, .int .i64 i, .any, .any, .any, .any, .any, .any, .any, .any, .any, .any, .any, .any, .any, .any, .any, .any, .any, .any, .any, .any, .any, .any, .any, .any, .any, .any, .any, .any, .any, .any, .any, .any, .any, .any, .any, .any, .any], [.arr [.int .i64 x1_, .int .i64 y1_, .int .i64 z1_], .arr ((preG (x1_, y1_, z1_) r0 i).1.flatMap cG)], [false, false]⟩
  refine loop_up C r0.length ?_ (fun i hi IH => ?_) ?_
  · simp only [E_MPut, firstR, mkQ_keep, keepT, List.find?, Nat.reduceBEq, Option.map_some, Option.getD_some]
    simp (maxSteps := 4000000) (disch := (first | with_reducible rfl | assumption | omega | (simp only [List.length_append, List.length_map, List.length_cons, List.length_nil, List.length_set, List.length_replicate, List.length_take, List.size_toArray]; omega))) [E_MPut, C, hp0]
  · have hs := hsu i hi
    have hm := hln i (by omega)
    have c1 := chunkG hi
    have c0 := cellG0 hi
    have g0 := getE c0
    have ws : wrap64 ((i : Int) + 1) = ((i + 1 : Nat) : Int) := wsucc (by omega)
    simp only [C] at IH ⊢
    rw [hs] at IH
    generalize preG (x1_, y1_, z1_) r0 i = o at *
    obtain ⟨o, b⟩ := o
    replace hm : o.length ≤ 2 * i := hm
    have ho := lenG o
    generalize hD : r0.flatMap cG = D at *
    generalize gAt r0 i = v at *
    clear hs hsu hln hall hp0
    cases b
    · by_cases hv : x1_ < v.1
      · simp (maxSteps := 4000000) (disch := (first | with_reducible rfl | assumption | omega | (simp only [List.length_append, List.length_map, List.length_cons, List.length_nil, List.length_set, List.length_replicate, List.length_take, List.size_toArray]; omega))) [E_MPut, hl, hi, c0, g0, c1, ws, hv, ho, nilOp]
        rw [if_pos ⟨rfl, hv⟩] at IH
        simp only [List.flatMap_append, List.flatMap_cons, List.flatMap_nil, List.append_nil, List.length_append, List.length_cons, List.length_nil, cG, List.cons_append, List.nil_append, Nat.zero_add, Nat.reduceAdd] at IH
        refine again_of ?_ IH
        simp only [E_MPut, firstR, mkQ_keep, keepT, List.find?, Nat.reduceBEq, Option.map_some, Option.getD_some]
        simp (maxSteps := 4000000) (disch := (first | with_reducible rfl | assumption | omega | (simp only [List.length_append, List.length_map, List.length_cons, List.length_nil, List.length_set, List.length_replicate, List.length_take, List.size_toArray]; omega))) [E_MPut]
      · simp (maxSteps := 4000000) (disch := (first | with_reducible rfl | assumption | omega | (simp only [List.length_append, List.length_map, List.length_cons, List.length_nil, List.length_set, List.length_replicate, List.length_take, List.size_toArray]; omega))) [E_MPut, hl, hi, c0, g0, c1, ws, hv, ho, nilOp]
        rw [if_neg (fun h => hv h.2)] at IH
        simp only [List.flatMap_append, List.flatMap_cons, List.flatMap_nil, List.append_nil, List.length_append, List.length_cons, List.length_nil, cG, List.cons_append, List.nil_append, Nat.zero_add, Nat.reduceAdd] at IH
        refine again_of ?_ IH
        simp only [E_MPut, firstR, mkQ_keep, keepT, List.find?, Nat.reduceBEq, Option.map_some, Option.getD_some]
        simp (maxSteps := 4000000) (disch := (first | with_reducible rfl | assumption | omega | (simp only [List.length_append, List.length_map, List.length_cons, List.length_nil, List.length_set, List.length_replicate, List.length_take, List.size_toArray]; omega))) [E_MPut]
    · simp (maxSteps := 4000000) (disch := (first | with_reducible rfl | assumption | omega | (simp only [List.length_append, List.length_map, List.length_cons, List.length_nil, List.length_set, List.length_replicate, List.length_take, List.size_toArray]; omega))) [E_MPut, hl, hi, c0, g0, c1, ws, ho, nilOp]
      rw [if_neg (fun h => by cases h.1)] at IH
      simp only [List.flatMap_append, List.flatMap_cons, List.flatMap_nil, List.append_nil, List.length_append, List.length_cons, List.length_nil, cG, List.cons_append, List.nil_append, Nat.zero_add, Nat.reduceAdd] at IH
      refine again_of ?_ IH
      simp only [E_MPut, firstR, mkQ_keep, keepT, List.find?, Nat.reduceBEq, Option.map_some, Option.getD_some]
      simp (maxSteps := 4000000) (disch := (first | with_reducible rfl | assumption | omega | (simp only [List.length_append, List.length_map, List.length_cons, List.length_nil, List.length_set, List.length_replicate, List.length_take, List.size_toArray]; omega))) [E_MPut]
  · have hm := hln r0.length (Nat.le_refl _)
    simp only [C]
    generalize preG (x1_, y1_, z1_) r0 r0.length = o at *
    obtain ⟨o, b⟩ := o
    replace hm : o.length ≤ 2 * r0.length := hm
    have ho := lenG o
    cases b
    · simp (maxSteps := 4000000) (disch := (first | with_reducible rfl | assumption | omega | (simp only [List.length_append, List.length_map, List.length_cons, List.length_nil, List.length_set, List.length_replicate, List.length_take, List.size_toArray]; omega))) [E_MPut, hl, ho, cG]
    · simp (maxSteps := 4000000) (disch := (first | with_reducible rfl | assumption | omega | (simp only [List.length_append, List.length_map, List.length_cons, List.length_nil, List.length_set, List.length_replicate, List.length_take, List.size_toArray]; omega))) [E_MPut, hl, ho]
theorem sMPut : GoodS (14, MPut) := by
  intro xs r h
  simp only at h
  unfold MPut at h
  split at h
  · obtain ⟨r0, h0, h⟩ := Option.bind_eq_some_iff.1 h
    obtain ⟨⟨x1_, y1_, z1_⟩, h1, h⟩ := Option.bind_eq_some_iff.1 h
    try dsimp only at h
    split at h
    · rename_i hc
      cases h
      obtain rfl := dec_out h0
      obtain rfl := agg3_eq h1
      exact .inl <| okW_ends (mkQ_ok alls_nil allq_nil) mixed Try.func14 rfl (by kernel_rfl : Fits Try.prog E_MPut.ref E_MPut.dep Try.f14 = true) (run_MPut _ _ _ _ hc)
    · cases h
  · cases h
attribute [simp] MPut
end Go.Proofs.Ytpbaloceljfaoaa.ZRat
