import Derived.Test.YtpbaloceljfaoaaLt
import Derived.Test.YtpbaloceljfaoaaXPsB
set_option linter.unusedVariables false
set_option linter.unusedSimpArgs false
namespace Go.Proofs.Ytpbaloceljfaoaa.ZRat
open Go.RowKit Go.Proofs.Ytpbaloceljfaoaa.Wd
open Go Go.Proofs.Ytpbaloceljfaoaa.Ab Go.Proofs
set_option linter.unusedSimpArgs false
set_option linter.unusedVariables false
set_option maxHeartbeats 8000000
set_option maxRecDepth 100000
open Classical in
noncomputable def QAt : List AV → List Blk → List Bool → Option (AV × List Blk × List Bool)
  | [.ptr 0 0, .int .i64 d], [.obj [.int .i64 n, .int .i64 m, x]], [z0] => (decL x).bind fun l => if l.length ≤ 100 then some (.int .i64 (idxG l (fun p => p.1 == d)), [.obj [.int .i64 n, .int .i64 m, x]], [z0]) else none
  | _, _, _ => none
noncomputable def E_QAt : Env := mkQ [] [] [(2, [0, 1, 5])] []
theorem run_QAt (x : AV) (l : List G3) (n m d : Int) (z0 : Bool) (hx : decL x = some l) (hb : l.length ≤ 100) : AEnds E_QAt (finR Try.prog Try.f11.results) 1 [.code (Try.f11.body.getD .skip)] (startA Try.f11 [.ptr 0 0, .int .i64 d] [.obj [.int .i64 n, .int .i64 m, x]] [z0]) (.int .i64 (idxG l (fun p => p.1 == d)), [.obj [.int .i64 n, .int .i64 m, x]], [z0]) := by
  simp only [Try.f11, Option.getD_some, startA]
  rcases decL_out hx with ⟨rfl, rfl⟩ | rfl
  · simp (maxSteps := 4000000) (disch := (first | with_reducible rfl | assumption | omega | (simp only [List.length_append, List.length_map, List.length_cons, List.length_nil, List.length_set, List.length_replicate, List.length_take, List.size_toArray]; omega))) [E_QAt]
    refine .loop ?_
    simp only [E_QAt, firstR, mkQ_keep, keepT, List.find?, Nat.reduceBEq, Option.map_some, Option.getD_some]
    simp (maxSteps := 4000000) (disch := (first | with_reducible rfl | assumption | omega | (simp only [List.length_append, List.length_map, List.length_cons, List.length_nil, List.length_set, List.length_replicate, List.length_take, List.size_toArray]; omega))) [E_QAt, idxG]
  · have hl := lenG l
    unfold rowG
    simp (maxSteps := 4000000) (disch := (first | with_reducible rfl | assumption | omega | (simp only [List.length_append, List.length_map, List.length_cons, List.length_nil, List.length_set, List.length_replicate, List.length_take, List.size_toArray]; omega))) [E_QAt, hl]
    let C : Nat → AS := fun i => ⟨[.ptr 0 0, .int .i64 d, .any, .any, .any, .int .i64 i, .any, .any, .any, .any, .any, .any, .any, .any, .any, .any, .any, .any, .any, .any, .any, .any, .any, .any, .any, .any], [.obj [.int .i64 n, .int .i64 m, .row l.length (l.flatMap cG)]], [z0]⟩
    rcases idxG_spec l (fun p => p.1 == d) with ⟨N, hN, hp, hq, e⟩ | ⟨hq, e⟩
    · rw [e]
      refine loop_up C N ?_ (fun i hi IH => ?_) ?_
      · simp only [E_QAt, firstR, mkQ_keep, keepT, List.find?, Nat.reduceBEq, Option.map_some, Option.getD_some]
        simp (maxSteps := 4000000) (disch := (first | with_reducible rfl | assumption | omega | (simp only [List.length_append, List.length_map, List.length_cons, List.length_nil, List.length_set, List.length_replicate, List.length_take, List.size_toArray]; omega))) [E_QAt, C]
      · have hi2 : i < l.length := by omega
        have c1 := chunkG hi2
        have c0 := cellG0 hi2
        have g0 := getE c0
        have c2 := chunkG2 hi2
        have ws : wrap64 ((i : Int) + 1) = ((i + 1 : Nat) : Int) := wsucc (by omega)
        have hq := hq i hi
        simp only [C] at IH ⊢
        generalize l.flatMap cG = D at *
        generalize gAt l i = v at *
        simp at hq
        simp (maxSteps := 4000000) (disch := (first | with_reducible rfl | assumption | omega | (simp only [List.length_append, List.length_map, List.length_cons, List.length_nil, List.length_set, List.length_replicate, List.length_take, List.size_toArray]; omega))) [E_QAt, hl, hi2, c0, g0, c1, c2, ws, hq, nilOp]
        refine again_of ?_ IH
        simp only [E_QAt, firstR, mkQ_keep, keepT, List.find?, Nat.reduceBEq, Option.map_some, Option.getD_some]
        simp (maxSteps := 4000000) (disch := (first | with_reducible rfl | assumption | omega | (simp only [List.length_append, List.length_map, List.length_cons, List.length_nil, List.length_set, List.length_replicate, List.length_take, List.size_toArray]; omega))) [E_QAt]
      · have c1 := chunkG hN
        have c0 := cellG0 hN
        have g0 := getE c0
        have c2 := chunkG2 hN
        simp only [C]
        generalize l.flatMap cG = D at *
        generalize gAt l N = v at *
        simp at hp
        simp (maxSteps := 4000000) (disch := (first | with_reducible rfl | assumption | omega | (simp only [List.length_append, List.length_map, List.length_cons, List.length_nil, List.length_set, List.length_replicate, List.length_take, List.size_toArray]; omega))) [E_QAt, hl, hN, c0, g0, c1, c2, hp, nilOp]
    · rw [e]
      refine loop_up C l.length ?_ (fun i hi IH => ?_) ?_
      · simp only [E_QAt, firstR, mkQ_keep, keepT, List.find?, Nat.reduceBEq, Option.map_some, Option.getD_some]
        simp (maxSteps := 4000000) (disch := (first | with_reducible rfl | assumption | omega | (simp only [List.length_append, List.length_map, List.length_cons, List.length_nil, List.length_set, List.length_replicate, List.length_take, List.size_toArray]; omega))) [E_QAt, C]
      · have c1 := chunkG hi
        have c0 := cellG0 hi
        have g0 := getE c0
        have c2 := chunkG2 hi
        have ws : wrap64 ((i : Int) + 1) = ((i + 1 : Nat) : Int) := wsucc (by omega)
        have hq := hq i hi
        simp only [C] at IH ⊢
        generalize l.flatMap cG = D at *
        generalize gAt l i = v at *
        simp at hq
        simp (maxSteps := 4000000) (disch := (first | with_reducible rfl | assumption | omega | (simp only [List.length_append, List.length_map, List.length_cons, List.length_nil, List.length_set, List.length_replicate, List.length_take, List.size_toArray]; omega))) [E_QAt, hl, hi, c0, g0, c1, c2, ws, hq, nilOp]
        refine again_of ?_ IH
        simp only [E_QAt, firstR, mkQ_keep, keepT, List.find?, Nat.reduceBEq, Option.map_some, Option.getD_some]
        simp (maxSteps := 4000000) (disch := (first | with_reducible rfl | assumption | omega | (simp only [List.length_append, List.length_map, List.length_cons, List.length_nil, List.length_set, List.length_replicate, List.length_take, List.size_toArray]; omega))) [E_QAt]
      · simp only [C]
        simp (maxSteps := 4000000) (disch := (first | with_reducible rfl | assumption | omega | (simp only [List.length_append, List.length_map, List.length_cons, List.length_nil, List.length_set, List.length_replicate, List.length_take, List.size_toArray]; omega))) [E_QAt, hl]
theorem qQAt : GoodQ (11, QAt) := by
  intro xs h z r h' z' hr
  simp only at hr
  unfold QAt at hr
  split at hr
  · obtain ⟨l, h_l, hr⟩ := Option.bind_eq_some_iff.1 hr
    split at hr
    · rename_i hc
      cases hr
      exact okR_ends (mkQ_ok alls_nil allq_nil) mixed Try.func11 rfl (by kernel_rfl : Fits Try.prog E_QAt.ref E_QAt.dep Try.f11 = true) (run_QAt _ _ _ _ _ _ h_l hc)
    · cases hr
  · cases hr
attribute [simp] QAt
open Classical in
noncomputable def QOn : List AV → List Blk → List Bool → Option (AV × List Blk × List Bool)
  | [.ptr 0 0, .agg [.int .i64 d, .int .i64 f]], [.obj [.int .i64 n, .int .i64 m, x]], [z0] => (decL x).bind fun l => if l.length ≤ 100 then some (.int .i64 (idxG l (fun p => p.2.1 == d && p.2.2 == f)), [.obj [.int .i64 n, .int .i64 m, x], .arr [.int .i64 d, .int .i64 f]], [z0, false]) else none
  | _, _, _ => none
noncomputable def E_QOn : Env := mkQ [] [] [(2, [0, 3, 5])] []
theorem run_QOn (x : AV) (l : List G3) (n m d f : Int) (z0 : Bool) (hx : decL x = some l) (hb : l.length ≤ 100) : AEnds E_QOn (finR Try.prog Try.f13.results) 1 [.code (Try.f13.body.getD .skip)] (startA Try.f13 [.ptr 0 0, .agg [.int .i64 d, .int .i64 f]] [.obj [.int .i64 n, .int .i64 m, x]] [z0]) (.int .i64 (idxG l (fun p => p.2.1 == d && p.2.2 == f)), [.obj [.int .i64 n, .int .i64 m, x], .arr [.int .i64 d, .int .i64 f]], [z0, false]) := by
  simp only [Try.f13, Option.getD_some, startA]
  rcases decL_out hx with ⟨rfl, rfl⟩ | rfl
  · simp (maxSteps := 4000000) (disch := (first | with_reducible rfl | assumption | omega | (simp only [List.length_append, List.length_map, List.length_cons, List.length_nil, List.length_set, List.length_replicate, List.length_take, List.size_toArray]; omega))) [E_QOn]
    refine .loop ?_
    simp only [E_QOn, firstR, mkQ_keep, keepT, List.find?, Nat.reduceBEq, Option.map_some, Option.getD_some]
    simp (maxSteps := 4000000) (disch := (first | with_reducible rfl | assumption | omega | (simp only [List.length_append, List.length_map, List.length_cons, List.length_nil, List.length_set, List.length_replicate, List.length_take, List.size_toArray]; omega))) [E_QOn, idxG]
  · have hl := lenG l
    unfold rowG
    simp (maxSteps := 4000000) (disch := (first | with_reducible rfl | assumption | omega | (simp only [List.length_append, List.length_map, List.length_cons, List.length_nil, List.length_set, List.length_replicate, List.length_take, List.size_toArray]; omega))) [E_QOn, hl]
    let C : Nat → AS := fun i => ⟨[.ptr 0 0, .any, .any, .ptr 1 0, .any, .int .i64 i, .any, .any, .any, .any, .any, .any, .any, .any, .any, .any, .any, .any, .any, .any, .any, .any, .any, .any, .any, .any], [.obj [.int .i64 n, .int .i64 m, .row l.length (l.flatMap cG)], .arr [.int .i64 d, .int .i64 f]], [z0, false]⟩
    rcases idxG_spec l (fun p => p.2.1 == d && p.2.2 == f) with ⟨N, hN, hp, hq, e⟩ | ⟨hq, e⟩
    · rw [e]
      refine loop_up C N ?_ (fun i hi IH => ?_) ?_
      · simp only [E_QOn, firstR, mkQ_keep, keepT, List.find?, Nat.reduceBEq, Option.map_some, Option.getD_some]
        simp (maxSteps := 4000000) (disch := (first | with_reducible rfl | assumption | omega | (simp only [List.length_append, List.length_map, List.length_cons, List.length_nil, List.length_set, List.length_replicate, List.length_take, List.size_toArray]; omega))) [E_QOn, C]
      · have hi2 : i < l.length := by omega
        have c1 := chunkG hi2
        have c0 := cellG0 hi2
        have g0 := getE c0
        have c2 := chunkG2 hi2
        have ws : wrap64 ((i : Int) + 1) = ((i + 1 : Nat) : Int) := wsucc (by omega)
        have hq := hq i hi
        simp only [C] at IH ⊢
        generalize l.flatMap cG = D at *
        generalize gAt l i = v at *
        replace hq : (v.2.1 == d && v.2.2 == f) = false := hq
        simp (maxSteps := 4000000) (disch := (first | with_reducible rfl | assumption | omega | (simp only [List.length_append, List.length_map, List.length_cons, List.length_nil, List.length_set, List.length_replicate, List.length_take, List.size_toArray]; omega))) [E_QOn, hl, hi2, c0, g0, c1, c2, ws, hq, nilOp]
        refine again_of ?_ IH
        simp only [E_QOn, firstR, mkQ_keep, keepT, List.find?, Nat.reduceBEq, Option.map_some, Option.getD_some]
        simp (maxSteps := 4000000) (disch := (first | with_reducible rfl | assumption | omega | (simp only [List.length_append, List.length_map, List.length_cons, List.length_nil, List.length_set, List.length_replicate, List.length_take, List.size_toArray]; omega))) [E_QOn]
      · have c1 := chunkG hN
        have c0 := cellG0 hN
        have g0 := getE c0
        have c2 := chunkG2 hN
        simp only [C]
        generalize l.flatMap cG = D at *
        generalize gAt l N = v at *
        replace hp : (v.2.1 == d && v.2.2 == f) = true := hp
        simp (maxSteps := 4000000) (disch := (first | with_reducible rfl | assumption | omega | (simp only [List.length_append, List.length_map, List.length_cons, List.length_nil, List.length_set, List.length_replicate, List.length_take, List.size_toArray]; omega))) [E_QOn, hl, hN, c0, g0, c1, c2, hp, nilOp]
    · rw [e]
      refine loop_up C l.length ?_ (fun i hi IH => ?_) ?_
      · simp only [E_QOn, firstR, mkQ_keep, keepT, List.find?, Nat.reduceBEq, Option.map_some, Option.getD_some]
        simp (maxSteps := 4000000) (disch := (first | with_reducible rfl | assumption | omega | (simp only [List.length_append, List.length_map, List.length_cons, List.length_nil, List.length_set, List.length_replicate, List.length_take, List.size_toArray]; omega))) [E_QOn, C]
      · have c1 := chunkG hi
        have c0 := cellG0 hi
        have g0 := getE c0
        have c2 := chunkG2 hi
        have ws : wrap64 ((i : Int) + 1) = ((i + 1 : Nat) : Int) := wsucc (by omega)
        have hq := hq i hi
        simp only [C] at IH ⊢
        generalize l.flatMap cG = D at *
        generalize gAt l i = v at *
        replace hq : (v.2.1 == d && v.2.2 == f) = false := hq
        simp (maxSteps := 4000000) (disch := (first | with_reducible rfl | assumption | omega | (simp only [List.length_append, List.length_map, List.length_cons, List.length_nil, List.length_set, List.length_replicate, List.length_take, List.size_toArray]; omega))) [E_QOn, hl, hi, c0, g0, c1, c2, ws, hq, nilOp]
        refine again_of ?_ IH
        simp only [E_QOn, firstR, mkQ_keep, keepT, List.find?, Nat.reduceBEq, Option.map_some, Option.getD_some]
        simp (maxSteps := 4000000) (disch := (first | with_reducible rfl | assumption | omega | (simp only [List.length_append, List.length_map, List.length_cons, List.length_nil, List.length_set, List.length_replicate, List.length_take, List.size_toArray]; omega))) [E_QOn]
      · simp only [C]
        simp (maxSteps := 4000000) (disch := (first | with_reducible rfl | assumption | omega | (simp only [List.length_append, List.length_map, List.length_cons, List.length_nil, List.length_set, List.length_replicate, List.length_take, List.size_toArray]; omega))) [E_QOn, hl]
theorem qQOn : GoodQ (13, QOn) := by
  intro xs h z r h' z' hr
  simp only at hr
  unfold QOn at hr
  split at hr
  · obtain ⟨l, h_l, hr⟩ := Option.bind_eq_some_iff.1 hr
    split at hr
    · rename_i hc
      cases hr
      exact okR_ends (mkQ_ok alls_nil allq_nil) mixed Try.func13 rfl (by kernel_rfl : Fits Try.prog E_QOn.ref E_QOn.dep Try.f13 = true) (run_QOn _ _ _ _ _ _ _ h_l hc)
    · cases hr
  · cases hr
attribute [simp] QOn
end Go.Proofs.Ytpbaloceljfaoaa.ZRat
