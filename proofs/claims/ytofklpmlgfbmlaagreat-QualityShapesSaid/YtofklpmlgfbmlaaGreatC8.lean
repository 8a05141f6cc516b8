/- Walks by the abstract run: the references, whole numbers; what they mean. -/
import Derived.Test.YtofklpmlgfbmlaaGreatC1
import Derived.Test.YtofklpmlgfbmlaaGreatC2
import Derived.Test.YtofklpmlgfbmlaaGreatC3
import Derived.Test.YtofklpmlgfbmlaaGreatC7
set_option linter.unusedVariables false
set_option linter.unusedSimpArgs false
namespace Go.Proofs.YtofklpmlgfbmlaaGreat.ZRat
open Go.RowKit Go.Proofs.YtofklpmlgfbmlaaGreat.Wd
open Go Go.Proofs.YtofklpmlgfbmlaaGreat.Ab Go.Proofs
set_option linter.unusedSimpArgs false
set_option linter.unusedVariables false
set_option maxHeartbeats 4000000
set_option maxRecDepth 10000
noncomputable def E116 : Env := mkE [] [] [(2, [0, 3])] []
theorem n116_ls (r : (List Int)) (k : Nat) : (∀ (x0 : List Int) (x3 : Int), zelligeref03_Trim.l0 k x0 x3 = some r → AEnds E116 (finW Tryz.prog Tryz.f116.results) 0 (atLoop Tryz.f116 2) ⟨fr 21 [(0, (rowI .i64 x0)), (3, (.int .i64 x3))], [], []⟩ (rowI .i64 r)) := by
  induction k using Nat.strongRecOn with
  | _ k ih =>
  intro x0 x3 h
  cases k with
  | zero => simp [zelligeref03_Trim.l0] at h
  | succ k1 =>
  simp only [zelligeref03_Trim.l0] at h
  simp only [Tryz.f116, atLoop, seek, firstR, reduceIte, Option.getD_some, Nat.reduceEqDiff]
  rcases ite_some h with ⟨c2, h⟩ | ⟨c2, h⟩
  · rcases ite_some h with ⟨c3, h⟩ | ⟨c3, h⟩
    · rcases ite_some h with ⟨c4, h⟩ | ⟨c4, h⟩
      · rcases ite_some h with ⟨c5, h⟩ | ⟨c5, h⟩
        · simp (maxSteps := 2000000) (disch := (first | omega | (simp only [List.length_append, List.length_map, List.length_cons, List.length_nil, List.length_set, List.length_replicate, List.length_take, List.size_toArray]; omega))) [E116, c2, c3, c4, c5]
          refine AEnds.againS ((ih k1 (by omega)) _ _  h) ?_
          simp only [E116, firstR, mk_keep, keepT, List.find?, Nat.reduceBEq, Option.map_some, Option.getD_some]
          simp (maxSteps := 2000000) (disch := (first | omega | (simp only [List.length_append, List.length_map, List.length_cons, List.length_nil, List.length_set, List.length_replicate, List.length_take, List.size_toArray]; omega))) [E116, c2, c3, c4, c5]
          try omega
        · rcases ite_some h with ⟨c6, h⟩ | ⟨c6, h⟩
          · rcases ite_some h with ⟨c7, h⟩ | ⟨c7, h⟩
            · obtain rfl := Option.some.inj h
              simp (maxSteps := 2000000) (disch := (first | omega | (simp only [List.length_append, List.length_map, List.length_cons, List.length_nil, List.length_set, List.length_replicate, List.length_take, List.size_toArray]; omega))) [E116, c2, c3, c4, c5, c6, c7]
              try omega
            · cases h
          · cases h
      · cases h
    · cases h
  · rcases ite_some h with ⟨c8, h⟩ | ⟨c8, h⟩
    · rcases ite_some h with ⟨c9, h⟩ | ⟨c9, h⟩
      · obtain rfl := Option.some.inj h
        simp (maxSteps := 2000000) (disch := (first | omega | (simp only [List.length_append, List.length_map, List.length_cons, List.length_nil, List.length_set, List.length_replicate, List.length_take, List.size_toArray]; omega))) [E116, c2, c8, c9]
        try omega
      · cases h
    · cases h
theorem n116_run (k : Nat) (l0 : List Int) (r : (List Int)) (h : zelligeref03_Trim.f k l0 = some r) : AEnds E116 (finW Tryz.prog Tryz.f116.results) 0 [.code (Tryz.f116.body.getD .skip)] (startA Tryz.f116 [(rowI .i64 l0)] [] []) (rowI .i64 r) := by
  unfold zelligeref03_Trim.f at h
  simp only [Tryz.f116, Option.getD_some, startA]
  simp (maxSteps := 2000000) (disch := (first | omega | (simp only [List.length_append, List.length_map, List.length_cons, List.length_nil, List.length_set, List.length_replicate, List.length_take, List.size_toArray]; omega))) [E116]
  refine AEnds.loopS ((n116_ls _ _) _ _  h) ?_
  simp only [E116, firstR, mk_keep, keepT, List.find?, Nat.reduceBEq, Option.map_some, Option.getD_some]
  simp (maxSteps := 2000000) (disch := (first | omega | (simp only [List.length_append, List.length_map, List.length_cons, List.length_nil, List.length_set, List.length_replicate, List.length_take, List.size_toArray]; omega))) [E116]
  try omega
theorem fit116 : Fits Tryz.prog E116.ref E116.dep Tryz.f116 = true := by kernel_rfl
theorem good116 : GoodV 116 := by
  intro xs r h
  simp only [SV] at h
  unfold SV116 at h
  split at h
  · obtain ⟨a0, h0, h⟩ := Option.bind_eq_some_iff.1 h
    obtain ⟨q, hq, rfl⟩ := Option.map_eq_some_iff.1 h
    obtain ⟨k, hk⟩ := of_pick hq
    obtain rfl := unI_eq h0
    exact okW_ends (mkE_ok all_nil all_nil) mixed Tryz.func116 rfl fit116 (n116_run k _  _ hk)
  · cases h
theorem goodR116 : GoodR 116 := fun _ _ _ _ _ _ h => by simp [SR] at h
end Go.Proofs.YtofklpmlgfbmlaaGreat.ZRat
namespace Go.Proofs.YtofklpmlgfbmlaaGreat.ZRat
open Go.RowKit Go.Proofs.YtofklpmlgfbmlaaGreat.Wd
open Go Go.Proofs.YtofklpmlgfbmlaaGreat.Ab Go.Proofs
set_option linter.unusedSimpArgs false
set_option linter.unusedVariables false
set_option maxHeartbeats 4000000
set_option maxRecDepth 10000
noncomputable def E68 : Env := mkE [] [116] [(3, [0, 3, 4])] [(5, [([], [], false), ([], [], false), ([], [], false), ([], [], false), ([], [], false), ([], [], false), ([], [], false), ([], [], false), ([], [], false), ([], [], false), ([], [], false), ([], [], false), ([], [], false), ([], [], false), ([0], [], false), ([], [], false)])]
theorem n68_ls (r : (List Int)) (k : Nat) : (∀ (x0 : List Int) (x3 : List Int) (x4 : Int), zelligeref03_Of.l0 k x0 x3 x4 = some r → AEnds E68 (finW Tryz.prog Tryz.f68.results) 0 (atLoop Tryz.f68 3) ⟨fr 29 [(0, (rowI .u32 x0)), (3, .own 0 0 x3.length 1), (4, (.int .i64 x4))], [.arr ((x3).map (.int .i64))], [false]⟩ (rowI .i64 r)) := by
  induction k using Nat.strongRecOn with
  | _ k ih =>
  intro x0 x3 x4 h
  cases k with
  | zero => simp [zelligeref03_Of.l0] at h
  | succ k1 =>
  simp only [zelligeref03_Of.l0] at h
  simp only [Tryz.f68, atLoop, seek, firstR, reduceIte, Option.getD_some, Nat.reduceEqDiff]
  rcases ite_some h with ⟨c2, h⟩ | ⟨c2, h⟩
  · rcases ite_some h with ⟨c3, h⟩ | ⟨c3, h⟩
    · obtain ⟨t4, e5, h⟩ := Option.bind_eq_some_iff.1 h
      obtain rfl := Option.some.inj e5
      rcases ite_some h with ⟨c6, h⟩ | ⟨c6, h⟩
      · try simp only [List.length_cons, List.length_nil, Nat.zero_add, Nat.reduceAdd] at c6
        simp (maxSteps := 2000000) (disch := (first | omega | (simp only [List.length_append, List.length_map, List.length_cons, List.length_nil, List.length_set, List.length_replicate, List.length_take, List.size_toArray]; omega))) [E68, c2, c3, c6]
        refine AEnds.againS ((ih k1 (by omega)) _ _ _  h) ?_
        simp only [E68, firstR, mk_keep, keepT, List.find?, Nat.reduceBEq, Option.map_some, Option.getD_some]
        simp (maxSteps := 2000000) (disch := (first | omega | (simp only [List.length_append, List.length_map, List.length_cons, List.length_nil, List.length_set, List.length_replicate, List.length_take, List.size_toArray]; omega))) [E68, c2, c3, c6]
        try omega
      · try simp only [List.length_cons, List.length_nil, Nat.zero_add, Nat.reduceAdd] at c6
        cases h
    · cases h
  · obtain ⟨t7, e8, h⟩ := Option.bind_eq_some_iff.1 h
    have p9 := pick_of (fun k r h => zelligeref03_Trim.mono _  k r h) e8
    obtain rfl := Option.some.inj h
    simp (maxSteps := 2000000) (disch := (first | omega | (simp only [List.length_append, List.length_map, List.length_cons, List.length_nil, List.length_set, List.length_replicate, List.length_take, List.size_toArray]; omega))) [E68, c2, p9]
    try omega
theorem n68_run (k : Nat) (l0 : List Int) (r : (List Int)) (h : zelligeref03_Of.f k l0 = some r) : AEnds E68 (finW Tryz.prog Tryz.f68.results) 0 [.code (Tryz.f68.body.getD .skip)] (startA Tryz.f68 [(rowI .u32 l0)] [] []) (rowI .i64 r) := by
  unfold zelligeref03_Of.f at h
  simp only [Tryz.f68, Option.getD_some, startA]
  simp (maxSteps := 2000000) (disch := (first | omega | (simp only [List.length_append, List.length_map, List.length_cons, List.length_nil, List.length_set, List.length_replicate, List.length_take, List.size_toArray]; omega))) [E68]
  refine AEnds.loopS ((n68_ls _ _) _ _ _  h) ?_
  simp only [E68, firstR, mk_keep, keepT, List.find?, Nat.reduceBEq, Option.map_some, Option.getD_some]
  simp (maxSteps := 2000000) (disch := (first | omega | (simp only [List.length_append, List.length_map, List.length_cons, List.length_nil, List.length_set, List.length_replicate, List.length_take, List.size_toArray]; omega))) [E68]
  try omega
theorem fit68 : Fits Tryz.prog E68.ref E68.dep Tryz.f68 = true := by kernel_rfl
theorem good68 : GoodV 68 := by
  intro xs r h
  simp only [SV] at h
  unfold SV68 at h
  split at h
  · obtain ⟨a0, h0, h⟩ := Option.bind_eq_some_iff.1 h
    obtain ⟨q, hq, rfl⟩ := Option.map_eq_some_iff.1 h
    obtain ⟨k, hk⟩ := of_pick hq
    obtain rfl := unI_eq h0
    exact okW_ends (mkE_ok (all_cons good116 all_nil) (all_cons goodR116 all_nil)) mixed Tryz.func68 rfl fit68 (n68_run k _  _ hk)
  · cases h
theorem goodR68 : GoodR 68 := fun _ _ _ _ _ _ h => by simp [SR] at h
end Go.Proofs.YtofklpmlgfbmlaaGreat.ZRat
namespace Go.Proofs.YtofklpmlgfbmlaaGreat.ZRat
open Go.RowKit Go.Proofs.YtofklpmlgfbmlaaGreat.Wd
open Go Go.Proofs.YtofklpmlgfbmlaaGreat.Ab Go.Proofs
set_option linter.unusedSimpArgs false
set_option linter.unusedVariables false
set_option maxHeartbeats 4000000
set_option maxRecDepth 10000
noncomputable def E119 : Env := mkE [] [] [(6, [0, 1, 5])] []
theorem n119_ls (r : (Int)) (k : Nat) : (∀ (x0 : List Int) (x1 : List Int) (x5 : Int), zelligeref03_Cmp.l0 k x0 x1 x5 = some r → AEnds E119 (finW Tryz.prog Tryz.f119.results) 0 (atLoop Tryz.f119 6) ⟨fr 41 [(0, (rowI .i64 x0)), (1, (rowI .i64 x1)), (5, (.int .i64 x5))], [], []⟩ (.int .i64 r)) := by
  induction k using Nat.strongRecOn with
  | _ k ih =>
  intro x0 x1 x5 h
  cases k with
  | zero => simp [zelligeref03_Cmp.l0] at h
  | succ k1 =>
  simp only [zelligeref03_Cmp.l0] at h
  simp only [Tryz.f119, atLoop, seek, firstR, reduceIte, Option.getD_some, Nat.reduceEqDiff]
  rcases ite_some h with ⟨c2, h⟩ | ⟨c2, h⟩
  · rcases ite_some h with ⟨c3, h⟩ | ⟨c3, h⟩
    · rcases ite_some h with ⟨c4, h⟩ | ⟨c4, h⟩
      · rcases ite_some h with ⟨c5, h⟩ | ⟨c5, h⟩
        · rcases ite_some h with ⟨c6, h⟩ | ⟨c6, h⟩
          · obtain rfl := Option.some.inj h
            simp (maxSteps := 2000000) (disch := (first | omega | (simp only [List.length_append, List.length_map, List.length_cons, List.length_nil, List.length_set, List.length_replicate, List.length_take, List.size_toArray]; omega))) [E119, c2, c3, c4, c5, c6]
            try omega
          · rcases ite_some h with ⟨c7, h⟩ | ⟨c7, h⟩
            · obtain rfl := Option.some.inj h
              simp (maxSteps := 2000000) (disch := (first | omega | (simp only [List.length_append, List.length_map, List.length_cons, List.length_nil, List.length_set, List.length_replicate, List.length_take, List.size_toArray]; omega))) [E119, c2, c3, c4, c5, c6, c7]
              try omega
            · simp (maxSteps := 2000000) (disch := (first | omega | (simp only [List.length_append, List.length_map, List.length_cons, List.length_nil, List.length_set, List.length_replicate, List.length_take, List.size_toArray]; omega))) [E119, c2, c3, c4, c5, c6, c7]
              refine AEnds.againS ((ih k1 (by omega)) _ _ _  h) ?_
              simp only [E119, firstR, mk_keep, keepT, List.find?, Nat.reduceBEq, Option.map_some, Option.getD_some]
              simp (maxSteps := 2000000) (disch := (first | omega | (simp only [List.length_append, List.length_map, List.length_cons, List.length_nil, List.length_set, List.length_replicate, List.length_take, List.size_toArray]; omega))) [E119, c2, c3, c4, c5, c6, c7]
              try omega
        · cases h
      · cases h
    · cases h
  · obtain rfl := Option.some.inj h
    simp (maxSteps := 2000000) (disch := (first | omega | (simp only [List.length_append, List.length_map, List.length_cons, List.length_nil, List.length_set, List.length_replicate, List.length_take, List.size_toArray]; omega))) [E119, c2]
    try omega
theorem n119_run (k : Nat) (l0 : List Int) (l1 : List Int) (r : (Int)) (h : zelligeref03_Cmp.f k l0 l1 = some r) : AEnds E119 (finW Tryz.prog Tryz.f119.results) 0 [.code (Tryz.f119.body.getD .skip)] (startA Tryz.f119 [(rowI .i64 l0), (rowI .i64 l1)] [] []) (.int .i64 r) := by
  unfold zelligeref03_Cmp.f at h
  simp only [Tryz.f119, Option.getD_some, startA]
  rcases ite_some h with ⟨c8, h⟩ | ⟨c8, h⟩
  · obtain rfl := Option.some.inj h
    simp (maxSteps := 2000000) (disch := (first | omega | (simp only [List.length_append, List.length_map, List.length_cons, List.length_nil, List.length_set, List.length_replicate, List.length_take, List.size_toArray]; omega))) [E119, c8]
    try omega
  · rcases ite_some h with ⟨c9, h⟩ | ⟨c9, h⟩
    · obtain rfl := Option.some.inj h
      simp (maxSteps := 2000000) (disch := (first | omega | (simp only [List.length_append, List.length_map, List.length_cons, List.length_nil, List.length_set, List.length_replicate, List.length_take, List.size_toArray]; omega))) [E119, c8, c9]
      try omega
    · simp (maxSteps := 2000000) (disch := (first | omega | (simp only [List.length_append, List.length_map, List.length_cons, List.length_nil, List.length_set, List.length_replicate, List.length_take, List.size_toArray]; omega))) [E119, c8, c9]
      refine AEnds.loopS ((n119_ls _ _) _ _ _  h) ?_
      simp only [E119, firstR, mk_keep, keepT, List.find?, Nat.reduceBEq, Option.map_some, Option.getD_some]
      simp (maxSteps := 2000000) (disch := (first | omega | (simp only [List.length_append, List.length_map, List.length_cons, List.length_nil, List.length_set, List.length_replicate, List.length_take, List.size_toArray]; omega))) [E119, c8, c9]
      try omega
theorem fit119 : Fits Tryz.prog E119.ref E119.dep Tryz.f119 = true := by kernel_rfl
theorem good119 : GoodV 119 := by
  intro xs r h
  simp only [SV] at h
  unfold SV119 at h
  split at h
  · obtain ⟨a0, h0, h⟩ := Option.bind_eq_some_iff.1 h
    obtain ⟨a1, h1, h⟩ := Option.bind_eq_some_iff.1 h
    obtain ⟨q, hq, rfl⟩ := Option.map_eq_some_iff.1 h
    obtain ⟨k, hk⟩ := of_pick hq
    obtain rfl := unI_eq h0
    obtain rfl := unI_eq h1
    exact okW_ends (mkE_ok all_nil all_nil) mixed Tryz.func119 rfl fit119 (n119_run k _ _  _ hk)
  · cases h
theorem goodR119 : GoodR 119 := fun _ _ _ _ _ _ h => by simp [SR] at h
end Go.Proofs.YtofklpmlgfbmlaaGreat.ZRat
namespace Go.Proofs.YtofklpmlgfbmlaaGreat.ZRat
open Go.RowKit Go.Proofs.YtofklpmlgfbmlaaGreat.Wd
open Go Go.Proofs.YtofklpmlgfbmlaaGreat.Ab Go.Proofs
set_option linter.unusedSimpArgs false
set_option linter.unusedVariables false
set_option maxHeartbeats 4000000
set_option maxRecDepth 10000
noncomputable def E118 : Env := mkE [] [116] [(3, [0, 1, 5, 6, 7])] []
theorem n118_ls (r : (List Int)) (k : Nat) : (∀ (x0 : List Int) (x1 : List Int) (x5 : List Int) (x6 : Int) (x7 : Int), zelligeref03_Add.l0 k x0 x1 x5 x6 x7 = some r → AEnds E118 (finW Tryz.prog Tryz.f118.results) 0 (atLoop Tryz.f118 3) ⟨fr 53 [(0, (rowI .i64 x0)), (1, (rowI .i64 x1)), (5, .own 0 0 x5.length 1), (6, (.int .i64 x6)), (7, (.int .i64 x7))], [.arr ((x5).map (.int .i64))], [false]⟩ (rowI .i64 r)) := by
  induction k using Nat.strongRecOn with
  | _ k ih =>
  intro x0 x1 x5 x6 x7 h
  cases k with
  | zero => simp [zelligeref03_Add.l0] at h
  | succ k1 =>
  simp only [zelligeref03_Add.l0] at h
  simp only [Tryz.f118, atLoop, seek, firstR, reduceIte, Option.getD_some, Nat.reduceEqDiff]
  rcases ite_some h with ⟨c2, h⟩ | ⟨c2, h⟩
  · cases k1 with
    | zero => simp [zelligeref03_Add.j1] at h
    | succ k3 =>
    simp only [zelligeref03_Add.j1] at h
    rcases ite_some h with ⟨c4, h⟩ | ⟨c4, h⟩
    · rcases ite_some h with ⟨c5, h⟩ | ⟨c5, h⟩
      · rcases ite_some h with ⟨c6, h⟩ | ⟨c6, h⟩
        · rcases ite_some h with ⟨c7, h⟩ | ⟨c7, h⟩
          · rcases ite_some h with ⟨c8, h⟩ | ⟨c8, h⟩
            · simp (maxSteps := 2000000) (disch := (first | omega | (simp only [List.length_append, List.length_map, List.length_cons, List.length_nil, List.length_set, List.length_replicate, List.length_take, List.size_toArray]; omega))) [E118, c2, c6, c7, c8]
              refine AEnds.againS ((ih k3 (by omega)) _ _ _ _ _  h) ?_
              simp only [E118, firstR, mk_keep, keepT, List.find?, Nat.reduceBEq, Option.map_some, Option.getD_some]
              simp (maxSteps := 2000000) (disch := (first | omega | (simp only [List.length_append, List.length_map, List.length_cons, List.length_nil, List.length_set, List.length_replicate, List.length_take, List.size_toArray]; omega))) [E118, c2, c6, c7, c8]
              try omega
            · cases h
          · rcases ite_some h with ⟨c9, h⟩ | ⟨c9, h⟩
            · simp (maxSteps := 2000000) (disch := (first | omega | (simp only [List.length_append, List.length_map, List.length_cons, List.length_nil, List.length_set, List.length_replicate, List.length_take, List.size_toArray]; omega))) [E118, c2, c6, c7, c9]
              refine AEnds.againS ((ih k3 (by omega)) _ _ _ _ _  h) ?_
              simp only [E118, firstR, mk_keep, keepT, List.find?, Nat.reduceBEq, Option.map_some, Option.getD_some]
              simp (maxSteps := 2000000) (disch := (first | omega | (simp only [List.length_append, List.length_map, List.length_cons, List.length_nil, List.length_set, List.length_replicate, List.length_take, List.size_toArray]; omega))) [E118, c2, c6, c7, c9]
              try omega
            · cases h
        · cases h
      · exact absurd c2 c5
    · simp at c4
  · cases k1 with
    | zero => simp [zelligeref03_Add.j1] at h
    | succ k10 =>
    simp only [zelligeref03_Add.j1] at h
    rcases ite_some h with ⟨c11, h⟩ | ⟨c11, h⟩
    · simp only [decide_eq_true_eq] at c11
      rcases ite_some h with ⟨c12, h⟩ | ⟨c12, h⟩
      · exact absurd c12 c2
      · rcases ite_some h with ⟨c13, h⟩ | ⟨c13, h⟩
        · rcases ite_some h with ⟨c14, h⟩ | ⟨c14, h⟩
          · rcases ite_some h with ⟨c15, h⟩ | ⟨c15, h⟩
            · simp (maxSteps := 2000000) (disch := (first | omega | (simp only [List.length_append, List.length_map, List.length_cons, List.length_nil, List.length_set, List.length_replicate, List.length_take, List.size_toArray]; omega))) [E118, c2, c11, c14, c15]
              refine AEnds.againS ((ih k10 (by omega)) _ _ _ _ _  h) ?_
              simp only [E118, firstR, mk_keep, keepT, List.find?, Nat.reduceBEq, Option.map_some, Option.getD_some]
              simp (maxSteps := 2000000) (disch := (first | omega | (simp only [List.length_append, List.length_map, List.length_cons, List.length_nil, List.length_set, List.length_replicate, List.length_take, List.size_toArray]; omega))) [E118, c2, c11, c14, c15]
              try omega
            · cases h
          · cases h
        · exact absurd c11 c13
    · simp only [decide_eq_true_eq] at c11
      rcases ite_some h with ⟨c16, h⟩ | ⟨c16, h⟩
      · obtain ⟨t17, e18, h⟩ := Option.bind_eq_some_iff.1 h
        have p19 := pick_of (fun k r h => zelligeref03_Trim.mono _  k r h) e18
        obtain rfl := Option.some.inj h
        simp (maxSteps := 2000000) (disch := (first | omega | (simp only [List.length_append, List.length_map, List.length_cons, List.length_nil, List.length_set, List.length_replicate, List.length_take, List.size_toArray]; omega))) [E118, c2, c11, c16, p19]
        try omega
      · cases h
theorem n118_run (k : Nat) (l0 : List Int) (l1 : List Int) (r : (List Int)) (h : zelligeref03_Add.f k l0 l1 = some r) : AEnds E118 (finW Tryz.prog Tryz.f118.results) 0 [.code (Tryz.f118.body.getD .skip)] (startA Tryz.f118 [(rowI .i64 l0), (rowI .i64 l1)] [] []) (rowI .i64 r) := by
  unfold zelligeref03_Add.f at h
  simp only [Tryz.f118, Option.getD_some, startA]
  simp (maxSteps := 2000000) (disch := (first | omega | (simp only [List.length_append, List.length_map, List.length_cons, List.length_nil, List.length_set, List.length_replicate, List.length_take, List.size_toArray]; omega))) [E118]
  refine AEnds.loopS ((n118_ls _ _) _ _ _ _ _  h) ?_
  simp only [E118, firstR, mk_keep, keepT, List.find?, Nat.reduceBEq, Option.map_some, Option.getD_some]
  simp (maxSteps := 2000000) (disch := (first | omega | (simp only [List.length_append, List.length_map, List.length_cons, List.length_nil, List.length_set, List.length_replicate, List.length_take, List.size_toArray]; omega))) [E118]
  try omega
theorem fit118 : Fits Tryz.prog E118.ref E118.dep Tryz.f118 = true := by kernel_rfl
theorem good118 : GoodV 118 := by
  intro xs r h
  simp only [SV] at h
  unfold SV118 at h
  split at h
  · obtain ⟨a0, h0, h⟩ := Option.bind_eq_some_iff.1 h
    obtain ⟨a1, h1, h⟩ := Option.bind_eq_some_iff.1 h
    obtain ⟨q, hq, rfl⟩ := Option.map_eq_some_iff.1 h
    obtain ⟨k, hk⟩ := of_pick hq
    obtain rfl := unI_eq h0
    obtain rfl := unI_eq h1
    exact okW_ends (mkE_ok (all_cons good116 all_nil) (all_cons goodR116 all_nil)) mixed Tryz.func118 rfl fit118 (n118_run k _ _  _ hk)
  · cases h
theorem goodR118 : GoodR 118 := fun _ _ _ _ _ _ h => by simp [SR] at h
end Go.Proofs.YtofklpmlgfbmlaaGreat.ZRat
namespace Go.Proofs.YtofklpmlgfbmlaaGreat.ZRat
open Go.RowKit Go.Proofs.YtofklpmlgfbmlaaGreat.Wd
open Go Go.Proofs.YtofklpmlgfbmlaaGreat.Ab Go.Proofs
set_option linter.unusedSimpArgs false
set_option linter.unusedVariables false
set_option maxHeartbeats 4000000
set_option maxRecDepth 10000
noncomputable def E79 : Env := mkE [] [116] [(3, [0, 1, 5, 6]), (7, [0, 1, 5, 6, 7, 8])] []
theorem n79_ls (r : (List Int)) (k : Nat) : (∀ (x0 : List Int) (x1 : List Int) (x5 : List Int) (x6 : Int), zelligeref03_Mul.l0 k x0 x1 x5 x6 = some r → AEnds E79 (finW Tryz.prog Tryz.f79.results) 0 (atLoop Tryz.f79 3) ⟨fr 63 [(0, (rowI .i64 x0)), (1, (rowI .i64 x1)), (5, .own 0 0 x5.length 1), (6, (.int .i64 x6))], [.arr ((x5).map (.int .i64))], [false]⟩ (rowI .i64 r)) ∧ (∀ (x0 : List Int) (x1 : List Int) (x5 : List Int) (x6 : Int) (x7 : Int) (x8 : Int), zelligeref03_Mul.l1 k x0 x1 x5 x6 x7 x8 = some r → AEnds E79 (finW Tryz.prog Tryz.f79.results) 0 (atLoop Tryz.f79 7) ⟨fr 63 [(0, (rowI .i64 x0)), (1, (rowI .i64 x1)), (5, .own 0 0 x5.length 1), (6, (.int .i64 x6)), (7, (.int .i64 x7)), (8, (.int .i64 x8))], [.arr ((x5).map (.int .i64))], [false]⟩ (rowI .i64 r)) := by
  induction k using Nat.strongRecOn with
  | _ k ih =>
  refine ⟨?_, ?_⟩
  · intro x0 x1 x5 x6 h
    cases k with
    | zero => simp [zelligeref03_Mul.l0] at h
    | succ k1 =>
    simp only [zelligeref03_Mul.l0] at h
    simp only [Tryz.f79, atLoop, seek, firstR, reduceIte, Option.getD_some, Nat.reduceEqDiff]
    rcases ite_some h with ⟨c2, h⟩ | ⟨c2, h⟩
    · simp (maxSteps := 2000000) (disch := (first | omega | (simp only [List.length_append, List.length_map, List.length_cons, List.length_nil, List.length_set, List.length_replicate, List.length_take, List.size_toArray]; omega))) [E79, c2]
      refine AEnds.loopS ((ih k1 (by omega)).2 _ _ _ _ _ _  h) ?_
      simp only [E79, firstR, mk_keep, keepT, List.find?, Nat.reduceBEq, Option.map_some, Option.getD_some]
      simp (maxSteps := 2000000) (disch := (first | omega | (simp only [List.length_append, List.length_map, List.length_cons, List.length_nil, List.length_set, List.length_replicate, List.length_take, List.size_toArray]; omega))) [E79, c2]
      try omega
    · obtain ⟨t3, e4, h⟩ := Option.bind_eq_some_iff.1 h
      have p5 := pick_of (fun k r h => zelligeref03_Trim.mono _  k r h) e4
      obtain rfl := Option.some.inj h
      simp (maxSteps := 2000000) (disch := (first | omega | (simp only [List.length_append, List.length_map, List.length_cons, List.length_nil, List.length_set, List.length_replicate, List.length_take, List.size_toArray]; omega))) [E79, c2, p5]
      try omega
  · intro x0 x1 x5 x6 x7 x8 h
    cases k with
    | zero => simp [zelligeref03_Mul.l1] at h
    | succ k6 =>
    simp only [zelligeref03_Mul.l1] at h
    simp only [Tryz.f79, atLoop, seek, firstR, reduceIte, Option.getD_some, Nat.reduceEqDiff]
    rcases ite_some h with ⟨c7, h⟩ | ⟨c7, h⟩
    · rcases ite_some h with ⟨c8, h⟩ | ⟨c8, h⟩
      · rcases ite_some h with ⟨c9, h⟩ | ⟨c9, h⟩
        · rcases ite_some h with ⟨c10, h⟩ | ⟨c10, h⟩
          · rcases ite_some h with ⟨c11, h⟩ | ⟨c11, h⟩
            · rcases ite_some h with ⟨c12, h⟩ | ⟨c12, h⟩
              · simp (maxSteps := 2000000) (disch := (first | omega | (simp only [List.length_append, List.length_map, List.length_cons, List.length_nil, List.length_set, List.length_replicate, List.length_take, List.size_toArray]; omega))) [E79, c7, c8, c9, c10, c11, c12]
                refine AEnds.againS ((ih k6 (by omega)).2 _ _ _ _ _ _  h) ?_
                simp only [E79, firstR, mk_keep, keepT, List.find?, Nat.reduceBEq, Option.map_some, Option.getD_some]
                simp (maxSteps := 2000000) (disch := (first | omega | (simp only [List.length_append, List.length_map, List.length_cons, List.length_nil, List.length_set, List.length_replicate, List.length_take, List.size_toArray]; omega))) [E79, c7, c8, c9, c10, c11, c12]
                try omega
              · cases h
            · cases h
          · cases h
        · cases h
      · cases h
    · rcases ite_some h with ⟨c13, h⟩ | ⟨c13, h⟩
      · rcases ite_some h with ⟨c14, h⟩ | ⟨c14, h⟩
        · simp (maxSteps := 2000000) (disch := (first | omega | (simp only [List.length_append, List.length_map, List.length_cons, List.length_nil, List.length_set, List.length_replicate, List.length_take, List.size_toArray]; omega))) [E79, c7, c13, c14]
          refine AEnds.againS ((ih k6 (by omega)).1 _ _ _ _  h) ?_
          simp only [E79, firstR, mk_keep, keepT, List.find?, Nat.reduceBEq, Option.map_some, Option.getD_some]
          simp (maxSteps := 2000000) (disch := (first | omega | (simp only [List.length_append, List.length_map, List.length_cons, List.length_nil, List.length_set, List.length_replicate, List.length_take, List.size_toArray]; omega))) [E79, c7, c13, c14]
          try omega
        · cases h
      · cases h
theorem n79_run (k : Nat) (l0 : List Int) (l1 : List Int) (r : (List Int)) (h : zelligeref03_Mul.f k l0 l1 = some r) : AEnds E79 (finW Tryz.prog Tryz.f79.results) 0 [.code (Tryz.f79.body.getD .skip)] (startA Tryz.f79 [(rowI .i64 l0), (rowI .i64 l1)] [] []) (rowI .i64 r) := by
  unfold zelligeref03_Mul.f at h
  simp only [Tryz.f79, Option.getD_some, startA]
  rcases ite_some h with ⟨c15, h⟩ | ⟨c15, h⟩
  · rcases ite_some h with ⟨c16, h⟩ | ⟨c16, h⟩
    · simp (maxSteps := 2000000) (disch := (first | omega | (simp only [List.length_append, List.length_map, List.length_cons, List.length_nil, List.length_set, List.length_replicate, List.length_take, List.size_toArray]; omega))) [E79, c15, c16]
      refine AEnds.loopS ((n79_ls _ _).1 _ _ _ _  h) ?_
      simp only [E79, firstR, mk_keep, keepT, List.find?, Nat.reduceBEq, Option.map_some, Option.getD_some]
      simp (maxSteps := 2000000) (disch := (first | omega | (simp only [List.length_append, List.length_map, List.length_cons, List.length_nil, List.length_set, List.length_replicate, List.length_take, List.size_toArray]; omega))) [E79, c15, c16]
      try omega
    · cases h
  · cases h
theorem fit79 : Fits Tryz.prog E79.ref E79.dep Tryz.f79 = true := by kernel_rfl
theorem good79 : GoodV 79 := by
  intro xs r h
  simp only [SV] at h
  unfold SV79 at h
  split at h
  · obtain ⟨a0, h0, h⟩ := Option.bind_eq_some_iff.1 h
    obtain ⟨a1, h1, h⟩ := Option.bind_eq_some_iff.1 h
    obtain ⟨q, hq, rfl⟩ := Option.map_eq_some_iff.1 h
    obtain ⟨k, hk⟩ := of_pick hq
    obtain rfl := unI_eq h0
    obtain rfl := unI_eq h1
    exact okW_ends (mkE_ok (all_cons good116 all_nil) (all_cons goodR116 all_nil)) mixed Tryz.func79 rfl fit79 (n79_run k _ _  _ hk)
  · cases h
theorem goodR79 : GoodR 79 := fun _ _ _ _ _ _ h => by simp [SR] at h
end Go.Proofs.YtofklpmlgfbmlaaGreat.ZRat
namespace Go.Proofs.YtofklpmlgfbmlaaGreat.ZRat
open Go.RowKit Go.Proofs.YtofklpmlgfbmlaaGreat.Wd
open Go Go.Proofs.YtofklpmlgfbmlaaGreat.Ab Go.Proofs
set_option linter.unusedSimpArgs false
set_option linter.unusedVariables false
set_option maxHeartbeats 4000000
set_option maxRecDepth 10000
noncomputable def E120 : Env := mkE [] [116] [(3, [0, 1, 5, 6, 7])] []
theorem n120_ls (r : (List Int)) (k : Nat) : (∀ (x0 : List Int) (x1 : List Int) (x5 : List Int) (x6 : Int) (x7 : Int), zelligeref03_Sub.l0 k x0 x1 x5 x6 x7 = some r → AEnds E120 (finW Tryz.prog Tryz.f120.results) 0 (atLoop Tryz.f120 3) ⟨fr 42 [(0, (rowI .i64 x0)), (1, (rowI .i64 x1)), (5, .own 0 0 x5.length 1), (6, (.int .i64 x6)), (7, (.int .i64 x7))], [.arr ((x5).map (.int .i64))], [false]⟩ (rowI .i64 r)) := by
  induction k using Nat.strongRecOn with
  | _ k ih =>
  intro x0 x1 x5 x6 x7 h
  cases k with
  | zero => simp [zelligeref03_Sub.l0] at h
  | succ k1 =>
  simp only [zelligeref03_Sub.l0] at h
  simp only [Tryz.f120, atLoop, seek, firstR, reduceIte, Option.getD_some, Nat.reduceEqDiff]
  rcases ite_some h with ⟨c2, h⟩ | ⟨c2, h⟩
  · rcases ite_some h with ⟨c3, h⟩ | ⟨c3, h⟩
    · rcases ite_some h with ⟨c4, h⟩ | ⟨c4, h⟩
      · rcases ite_some h with ⟨c5, h⟩ | ⟨c5, h⟩
        · rcases ite_some h with ⟨c6, h⟩ | ⟨c6, h⟩
          · simp (maxSteps := 2000000) (disch := (first | omega | (simp only [List.length_append, List.length_map, List.length_cons, List.length_nil, List.length_set, List.length_replicate, List.length_take, List.size_toArray]; omega))) [E120, c2, c3, c4, c5, c6]
            refine AEnds.againS ((ih k1 (by omega)) _ _ _ _ _  h) ?_
            simp only [E120, firstR, mk_keep, keepT, List.find?, Nat.reduceBEq, Option.map_some, Option.getD_some]
            simp (maxSteps := 2000000) (disch := (first | omega | (simp only [List.length_append, List.length_map, List.length_cons, List.length_nil, List.length_set, List.length_replicate, List.length_take, List.size_toArray]; omega))) [E120, c2, c3, c4, c5, c6]
            try omega
          · cases h
        · rcases ite_some h with ⟨c7, h⟩ | ⟨c7, h⟩
          · simp (maxSteps := 2000000) (disch := (first | omega | (simp only [List.length_append, List.length_map, List.length_cons, List.length_nil, List.length_set, List.length_replicate, List.length_take, List.size_toArray]; omega))) [E120, c2, c3, c4, c5, c7]
            refine AEnds.againS ((ih k1 (by omega)) _ _ _ _ _  h) ?_
            simp only [E120, firstR, mk_keep, keepT, List.find?, Nat.reduceBEq, Option.map_some, Option.getD_some]
            simp (maxSteps := 2000000) (disch := (first | omega | (simp only [List.length_append, List.length_map, List.length_cons, List.length_nil, List.length_set, List.length_replicate, List.length_take, List.size_toArray]; omega))) [E120, c2, c3, c4, c5, c7]
            try omega
          · cases h
      · rcases ite_some h with ⟨c8, h⟩ | ⟨c8, h⟩
        · rcases ite_some h with ⟨c9, h⟩ | ⟨c9, h⟩
          · simp (maxSteps := 2000000) (disch := (first | omega | (simp only [List.length_append, List.length_map, List.length_cons, List.length_nil, List.length_set, List.length_replicate, List.length_take, List.size_toArray]; omega))) [E120, c2, c3, c4, c8, c9]
            refine AEnds.againS ((ih k1 (by omega)) _ _ _ _ _  h) ?_
            simp only [E120, firstR, mk_keep, keepT, List.find?, Nat.reduceBEq, Option.map_some, Option.getD_some]
            simp (maxSteps := 2000000) (disch := (first | omega | (simp only [List.length_append, List.length_map, List.length_cons, List.length_nil, List.length_set, List.length_replicate, List.length_take, List.size_toArray]; omega))) [E120, c2, c3, c4, c8, c9]
            try omega
          · cases h
        · rcases ite_some h with ⟨c10, h⟩ | ⟨c10, h⟩
          · simp (maxSteps := 2000000) (disch := (first | omega | (simp only [List.length_append, List.length_map, List.length_cons, List.length_nil, List.length_set, List.length_replicate, List.length_take, List.size_toArray]; omega))) [E120, c2, c3, c4, c8, c10]
            refine AEnds.againS ((ih k1 (by omega)) _ _ _ _ _  h) ?_
            simp only [E120, firstR, mk_keep, keepT, List.find?, Nat.reduceBEq, Option.map_some, Option.getD_some]
            simp (maxSteps := 2000000) (disch := (first | omega | (simp only [List.length_append, List.length_map, List.length_cons, List.length_nil, List.length_set, List.length_replicate, List.length_take, List.size_toArray]; omega))) [E120, c2, c3, c4, c8, c10]
            try omega
          · cases h
    · cases h
  · obtain ⟨t11, e12, h⟩ := Option.bind_eq_some_iff.1 h
    have p13 := pick_of (fun k r h => zelligeref03_Trim.mono _  k r h) e12
    obtain rfl := Option.some.inj h
    simp (maxSteps := 2000000) (disch := (first | omega | (simp only [List.length_append, List.length_map, List.length_cons, List.length_nil, List.length_set, List.length_replicate, List.length_take, List.size_toArray]; omega))) [E120, c2, p13]
    try omega
theorem n120_run (k : Nat) (l0 : List Int) (l1 : List Int) (r : (List Int)) (h : zelligeref03_Sub.f k l0 l1 = some r) : AEnds E120 (finW Tryz.prog Tryz.f120.results) 0 [.code (Tryz.f120.body.getD .skip)] (startA Tryz.f120 [(rowI .i64 l0), (rowI .i64 l1)] [] []) (rowI .i64 r) := by
  unfold zelligeref03_Sub.f at h
  simp only [Tryz.f120, Option.getD_some, startA]
  simp (maxSteps := 2000000) (disch := (first | omega | (simp only [List.length_append, List.length_map, List.length_cons, List.length_nil, List.length_set, List.length_replicate, List.length_take, List.size_toArray]; omega))) [E120]
  refine AEnds.loopS ((n120_ls _ _) _ _ _ _ _  h) ?_
  simp only [E120, firstR, mk_keep, keepT, List.find?, Nat.reduceBEq, Option.map_some, Option.getD_some]
  simp (maxSteps := 2000000) (disch := (first | omega | (simp only [List.length_append, List.length_map, List.length_cons, List.length_nil, List.length_set, List.length_replicate, List.length_take, List.size_toArray]; omega))) [E120]
  try omega
theorem fit120 : Fits Tryz.prog E120.ref E120.dep Tryz.f120 = true := by kernel_rfl
theorem good120 : GoodV 120 := by
  intro xs r h
  simp only [SV] at h
  unfold SV120 at h
  split at h
  · obtain ⟨a0, h0, h⟩ := Option.bind_eq_some_iff.1 h
    obtain ⟨a1, h1, h⟩ := Option.bind_eq_some_iff.1 h
    obtain ⟨q, hq, rfl⟩ := Option.map_eq_some_iff.1 h
    obtain ⟨k, hk⟩ := of_pick hq
    obtain rfl := unI_eq h0
    obtain rfl := unI_eq h1
    exact okW_ends (mkE_ok (all_cons good116 all_nil) (all_cons goodR116 all_nil)) mixed Tryz.func120 rfl fit120 (n120_run k _ _  _ hk)
  · cases h
theorem goodR120 : GoodR 120 := fun _ _ _ _ _ _ h => by simp [SR] at h
end Go.Proofs.YtofklpmlgfbmlaaGreat.ZRat
namespace Go.Proofs.YtofklpmlgfbmlaaGreat.ZRat
open Go.RowKit Go.Proofs.YtofklpmlgfbmlaaGreat.Wd
open Go Go.Proofs.YtofklpmlgfbmlaaGreat.Ab Go.Proofs
set_option linter.unusedSimpArgs false
set_option linter.unusedVariables false
set_option maxHeartbeats 4000000
set_option maxRecDepth 10000
noncomputable def E110 : Env := mkE [] [116, 118, 119, 120] [(3, [0, 1, 6, 7, 8])] []
theorem n110_ls (r : (List Int × List Int)) (k : Nat) : (∀ (x0 : List Int) (x1 : List Int) (x6 : List Int) (x7 : List Int) (x8 : Int), zelligeref03_DivMod.l0 k x0 x1 x6 x7 x8 = some r → AEnds E110 (finW Tryz.prog Tryz.f110.results) 0 (atLoop Tryz.f110 3) ⟨fr 62 [(0, (rowI .i64 x0)), (1, (rowI .i64 x1)), (6, .own 0 0 x6.length 1), (7, (rowI .i64 x7)), (8, (.int .i64 x8))], [.arr ((x6).map (.int .i64))], [false]⟩ (.tup [(rowI .i64 r.1), (rowI .i64 r.2)])) ∧ (∀ (x0 : List Int) (x1 : List Int) (x6 : List Int) (x7 : List Int) (x8 : Int), zelligeref03_DivMod.l0 k x0 x1 x6 x7 x8 = some r → AEnds E110 (finW Tryz.prog Tryz.f110.results) 0 (atLoop Tryz.f110 3) ⟨fr 62 [(0, (rowI .i64 x0)), (1, (rowI .i64 x1)), (6, .own 0 0 x6.length 1), (7, .own 1 0 x7.length 1), (8, (.int .i64 x8))], [.arr ((x6).map (.int .i64)), .arr ((x7).map (.int .i64))], [false, false]⟩ (.tup [(rowI .i64 r.1), (rowI .i64 r.2)])) := by
  induction k using Nat.strongRecOn with
  | _ k ih =>
  refine ⟨?_, ?_⟩
  · intro x0 x1 x6 x7 x8 h
    cases k with
    | zero => simp [zelligeref03_DivMod.l0] at h
    | succ k1 =>
    simp only [zelligeref03_DivMod.l0] at h
    simp only [Tryz.f110, atLoop, seek, firstR, reduceIte, Option.getD_some, Nat.reduceEqDiff]
    rcases ite_some h with ⟨c2, h⟩ | ⟨c2, h⟩
    · obtain ⟨t3, e4, h⟩ := Option.bind_eq_some_iff.1 h
      have p5 := pick_of (fun k r h => zelligeref03_Add.mono _ _  k r h) e4
      rcases ite_some h with ⟨c6, h⟩ | ⟨c6, h⟩
      · rcases ite_some h with ⟨c7, h⟩ | ⟨c7, h⟩
        · rcases ite_some h with ⟨c8, h⟩ | ⟨c8, h⟩
          · rcases ite_some h with ⟨c9, h⟩ | ⟨c9, h⟩
            · obtain ⟨t10, e11, h⟩ := Option.bind_eq_some_iff.1 h
              have p12 := pick_of (fun k r h => zelligeref03_Add.mono _ _  k r h) e11
              cases k1 with
              | zero => simp [zelligeref03_DivMod.j1] at h
              | succ k13 =>
              simp only [zelligeref03_DivMod.j1] at h
              obtain ⟨t14, e15, h⟩ := Option.bind_eq_some_iff.1 h
              have p16 := pick_of (fun k r h => zelligeref03_Cmp.mono _ _  k r h) e15
              rcases ite_some h with ⟨c17, h⟩ | ⟨c17, h⟩
              · obtain ⟨t18, e19, h⟩ := Option.bind_eq_some_iff.1 h
                have p20 := pick_of (fun k r h => zelligeref03_Sub.mono _ _  k r h) e19
                rcases ite_some h with ⟨c21, h⟩ | ⟨c21, h⟩
                · rcases ite_some h with ⟨c22, h⟩ | ⟨c22, h⟩
                  · rcases ite_some h with ⟨c23, h⟩ | ⟨c23, h⟩
                    · simp (maxSteps := 2000000) (disch := (first | omega | (simp only [List.length_append, List.length_map, List.length_cons, List.length_nil, List.length_set, List.length_replicate, List.length_take, List.size_toArray]; omega))) [E110, c2, p5, c6, c7, c8, c9, p12, p16, c17, p20, c22]
                      refine AEnds.againS ((ih k13 (by omega)).1 _ _ _ _ _  h) ?_
                      simp only [E110, firstR, mk_keep, keepT, List.find?, Nat.reduceBEq, Option.map_some, Option.getD_some]
                      simp (maxSteps := 2000000) (disch := (first | omega | (simp only [List.length_append, List.length_map, List.length_cons, List.length_nil, List.length_set, List.length_replicate, List.length_take, List.size_toArray]; omega))) [E110, c2, p5, c6, c7, c8, c9, p12, p16, c17, p20, c22]
                      try omega
                    · exact absurd c8 c23
                  · cases h
                · exact absurd c6 c21
              · simp (maxSteps := 2000000) (disch := (first | omega | (simp only [List.length_append, List.length_map, List.length_cons, List.length_nil, List.length_set, List.length_replicate, List.length_take, List.size_toArray]; omega))) [E110, c2, p5, c6, c7, c8, c9, p12, p16, c17]
                refine AEnds.againS ((ih k13 (by omega)).1 _ _ _ _ _  h) ?_
                simp only [E110, firstR, mk_keep, keepT, List.find?, Nat.reduceBEq, Option.map_some, Option.getD_some]
                simp (maxSteps := 2000000) (disch := (first | omega | (simp only [List.length_append, List.length_map, List.length_cons, List.length_nil, List.length_set, List.length_replicate, List.length_take, List.size_toArray]; omega))) [E110, c2, p5, c6, c7, c8, c9, p12, p16, c17]
                try omega
            · cases k1 with
              | zero => simp [zelligeref03_DivMod.j1] at h
              | succ k24 =>
              simp only [zelligeref03_DivMod.j1] at h
              obtain ⟨t25, e26, h⟩ := Option.bind_eq_some_iff.1 h
              have p27 := pick_of (fun k r h => zelligeref03_Cmp.mono _ _  k r h) e26
              rcases ite_some h with ⟨c28, h⟩ | ⟨c28, h⟩
              · obtain ⟨t29, e30, h⟩ := Option.bind_eq_some_iff.1 h
                have p31 := pick_of (fun k r h => zelligeref03_Sub.mono _ _  k r h) e30
                rcases ite_some h with ⟨c32, h⟩ | ⟨c32, h⟩
                · rcases ite_some h with ⟨c33, h⟩ | ⟨c33, h⟩
                  · rcases ite_some h with ⟨c34, h⟩ | ⟨c34, h⟩
                    · simp (maxSteps := 2000000) (disch := (first | omega | (simp only [List.length_append, List.length_map, List.length_cons, List.length_nil, List.length_set, List.length_replicate, List.length_take, List.size_toArray]; omega))) [E110, c2, p5, c6, c7, c8, c9, p27, c28, p31, c33]
                      refine AEnds.againS ((ih k24 (by omega)).1 _ _ _ _ _  h) ?_
                      simp only [E110, firstR, mk_keep, keepT, List.find?, Nat.reduceBEq, Option.map_some, Option.getD_some]
                      simp (maxSteps := 2000000) (disch := (first | omega | (simp only [List.length_append, List.length_map, List.length_cons, List.length_nil, List.length_set, List.length_replicate, List.length_take, List.size_toArray]; omega))) [E110, c2, p5, c6, c7, c8, c9, p27, c28, p31, c33]
                      try omega
                    · exact absurd c8 c34
                  · cases h
                · exact absurd c6 c32
              · simp (maxSteps := 2000000) (disch := (first | omega | (simp only [List.length_append, List.length_map, List.length_cons, List.length_nil, List.length_set, List.length_replicate, List.length_take, List.size_toArray]; omega))) [E110, c2, p5, c6, c7, c8, c9, p27, c28]
                refine AEnds.againS ((ih k24 (by omega)).1 _ _ _ _ _  h) ?_
                simp only [E110, firstR, mk_keep, keepT, List.find?, Nat.reduceBEq, Option.map_some, Option.getD_some]
                simp (maxSteps := 2000000) (disch := (first | omega | (simp only [List.length_append, List.length_map, List.length_cons, List.length_nil, List.length_set, List.length_replicate, List.length_take, List.size_toArray]; omega))) [E110, c2, p5, c6, c7, c8, c9, p27, c28]
                try omega
          · cases h
        · cases h
      · cases h
    · obtain ⟨t35, e36, h⟩ := Option.bind_eq_some_iff.1 h
      have p37 := pick_of (fun k r h => zelligeref03_Trim.mono _  k r h) e36
      obtain rfl := Option.some.inj h
      simp (maxSteps := 2000000) (disch := (first | omega | (simp only [List.length_append, List.length_map, List.length_cons, List.length_nil, List.length_set, List.length_replicate, List.length_take, List.size_toArray]; omega))) [E110, c2, p37]
      try omega
  · intro x0 x1 x6 x7 x8 h
    cases k with
    | zero => simp [zelligeref03_DivMod.l0] at h
    | succ k38 =>
    simp only [zelligeref03_DivMod.l0] at h
    simp only [Tryz.f110, atLoop, seek, firstR, reduceIte, Option.getD_some, Nat.reduceEqDiff]
    rcases ite_some h with ⟨c39, h⟩ | ⟨c39, h⟩
    · obtain ⟨t40, e41, h⟩ := Option.bind_eq_some_iff.1 h
      have p42 := pick_of (fun k r h => zelligeref03_Add.mono _ _  k r h) e41
      rcases ite_some h with ⟨c43, h⟩ | ⟨c43, h⟩
      · rcases ite_some h with ⟨c44, h⟩ | ⟨c44, h⟩
        · rcases ite_some h with ⟨c45, h⟩ | ⟨c45, h⟩
          · rcases ite_some h with ⟨c46, h⟩ | ⟨c46, h⟩
            · obtain ⟨t47, e48, h⟩ := Option.bind_eq_some_iff.1 h
              have p49 := pick_of (fun k r h => zelligeref03_Add.mono _ _  k r h) e48
              cases k38 with
              | zero => simp [zelligeref03_DivMod.j1] at h
              | succ k50 =>
              simp only [zelligeref03_DivMod.j1] at h
              obtain ⟨t51, e52, h⟩ := Option.bind_eq_some_iff.1 h
              have p53 := pick_of (fun k r h => zelligeref03_Cmp.mono _ _  k r h) e52
              rcases ite_some h with ⟨c54, h⟩ | ⟨c54, h⟩
              · obtain ⟨t55, e56, h⟩ := Option.bind_eq_some_iff.1 h
                have p57 := pick_of (fun k r h => zelligeref03_Sub.mono _ _  k r h) e56
                rcases ite_some h with ⟨c58, h⟩ | ⟨c58, h⟩
                · rcases ite_some h with ⟨c59, h⟩ | ⟨c59, h⟩
                  · rcases ite_some h with ⟨c60, h⟩ | ⟨c60, h⟩
                    · simp (maxSteps := 2000000) (disch := (first | omega | (simp only [List.length_append, List.length_map, List.length_cons, List.length_nil, List.length_set, List.length_replicate, List.length_take, List.size_toArray]; omega))) [E110, c39, p42, c43, c44, c45, c46, p49, p53, c54, p57, c59]
                      refine AEnds.againS ((ih k50 (by omega)).1 _ _ _ _ _  h) ?_
                      simp only [E110, firstR, mk_keep, keepT, List.find?, Nat.reduceBEq, Option.map_some, Option.getD_some]
                      simp (maxSteps := 2000000) (disch := (first | omega | (simp only [List.length_append, List.length_map, List.length_cons, List.length_nil, List.length_set, List.length_replicate, List.length_take, List.size_toArray]; omega))) [E110, c39, p42, c43, c44, c45, c46, p49, p53, c54, p57, c59]
                      try omega
                    · exact absurd c45 c60
                  · cases h
                · exact absurd c43 c58
              · simp (maxSteps := 2000000) (disch := (first | omega | (simp only [List.length_append, List.length_map, List.length_cons, List.length_nil, List.length_set, List.length_replicate, List.length_take, List.size_toArray]; omega))) [E110, c39, p42, c43, c44, c45, c46, p49, p53, c54]
                refine AEnds.againS ((ih k50 (by omega)).1 _ _ _ _ _  h) ?_
                simp only [E110, firstR, mk_keep, keepT, List.find?, Nat.reduceBEq, Option.map_some, Option.getD_some]
                simp (maxSteps := 2000000) (disch := (first | omega | (simp only [List.length_append, List.length_map, List.length_cons, List.length_nil, List.length_set, List.length_replicate, List.length_take, List.size_toArray]; omega))) [E110, c39, p42, c43, c44, c45, c46, p49, p53, c54]
                try omega
            · cases k38 with
              | zero => simp [zelligeref03_DivMod.j1] at h
              | succ k61 =>
              simp only [zelligeref03_DivMod.j1] at h
              obtain ⟨t62, e63, h⟩ := Option.bind_eq_some_iff.1 h
              have p64 := pick_of (fun k r h => zelligeref03_Cmp.mono _ _  k r h) e63
              rcases ite_some h with ⟨c65, h⟩ | ⟨c65, h⟩
              · obtain ⟨t66, e67, h⟩ := Option.bind_eq_some_iff.1 h
                have p68 := pick_of (fun k r h => zelligeref03_Sub.mono _ _  k r h) e67
                rcases ite_some h with ⟨c69, h⟩ | ⟨c69, h⟩
                · rcases ite_some h with ⟨c70, h⟩ | ⟨c70, h⟩
                  · rcases ite_some h with ⟨c71, h⟩ | ⟨c71, h⟩
                    · simp (maxSteps := 2000000) (disch := (first | omega | (simp only [List.length_append, List.length_map, List.length_cons, List.length_nil, List.length_set, List.length_replicate, List.length_take, List.size_toArray]; omega))) [E110, c39, p42, c43, c44, c45, c46, p64, c65, p68, c70]
                      refine AEnds.againS ((ih k61 (by omega)).1 _ _ _ _ _  h) ?_
                      simp only [E110, firstR, mk_keep, keepT, List.find?, Nat.reduceBEq, Option.map_some, Option.getD_some]
                      simp (maxSteps := 2000000) (disch := (first | omega | (simp only [List.length_append, List.length_map, List.length_cons, List.length_nil, List.length_set, List.length_replicate, List.length_take, List.size_toArray]; omega))) [E110, c39, p42, c43, c44, c45, c46, p64, c65, p68, c70]
                      try omega
                    · exact absurd c45 c71
                  · cases h
                · exact absurd c43 c69
              · simp (maxSteps := 2000000) (disch := (first | omega | (simp only [List.length_append, List.length_map, List.length_cons, List.length_nil, List.length_set, List.length_replicate, List.length_take, List.size_toArray]; omega))) [E110, c39, p42, c43, c44, c45, c46, p64, c65]
                refine AEnds.againS ((ih k61 (by omega)).1 _ _ _ _ _  h) ?_
                simp only [E110, firstR, mk_keep, keepT, List.find?, Nat.reduceBEq, Option.map_some, Option.getD_some]
                simp (maxSteps := 2000000) (disch := (first | omega | (simp only [List.length_append, List.length_map, List.length_cons, List.length_nil, List.length_set, List.length_replicate, List.length_take, List.size_toArray]; omega))) [E110, c39, p42, c43, c44, c45, c46, p64, c65]
                try omega
          · cases h
        · cases h
      · cases h
    · obtain ⟨t72, e73, h⟩ := Option.bind_eq_some_iff.1 h
      have p74 := pick_of (fun k r h => zelligeref03_Trim.mono _  k r h) e73
      obtain rfl := Option.some.inj h
      simp (maxSteps := 2000000) (disch := (first | omega | (simp only [List.length_append, List.length_map, List.length_cons, List.length_nil, List.length_set, List.length_replicate, List.length_take, List.size_toArray]; omega))) [E110, c39, p74]
      try omega
theorem n110_run (k : Nat) (l0 : List Int) (l1 : List Int) (r : (List Int × List Int)) (h : zelligeref03_DivMod.f k l0 l1 = some r) : AEnds E110 (finW Tryz.prog Tryz.f110.results) 0 [.code (Tryz.f110.body.getD .skip)] (startA Tryz.f110 [(rowI .i64 l0), (rowI .i64 l1)] [] []) (.tup [(rowI .i64 r.1), (rowI .i64 r.2)]) := by
  unfold zelligeref03_DivMod.f at h
  simp only [Tryz.f110, Option.getD_some, startA]
  rcases ite_some h with ⟨c75, h⟩ | ⟨c75, h⟩
  · rcases ite_some h with ⟨c76, h⟩ | ⟨c76, h⟩
    · simp (maxSteps := 2000000) (disch := (first | omega | (simp only [List.length_append, List.length_map, List.length_cons, List.length_nil, List.length_set, List.length_replicate, List.length_take, List.size_toArray]; omega))) [E110, c75, c76]
      refine AEnds.loopS ((n110_ls _ _).2 _ _ _ _ _  h) ?_
      simp only [E110, firstR, mk_keep, keepT, List.find?, Nat.reduceBEq, Option.map_some, Option.getD_some]
      simp (maxSteps := 2000000) (disch := (first | omega | (simp only [List.length_append, List.length_map, List.length_cons, List.length_nil, List.length_set, List.length_replicate, List.length_take, List.size_toArray]; omega))) [E110, c75, c76]
      try omega
    · cases h
  · cases h
theorem fit110 : Fits Tryz.prog E110.ref E110.dep Tryz.f110 = true := by kernel_rfl
theorem good110 : GoodV 110 := by
  intro xs r h
  simp only [SV] at h
  unfold SV110 at h
  split at h
  · obtain ⟨a0, h0, h⟩ := Option.bind_eq_some_iff.1 h
    obtain ⟨a1, h1, h⟩ := Option.bind_eq_some_iff.1 h
    obtain ⟨q, hq, rfl⟩ := Option.map_eq_some_iff.1 h
    obtain ⟨k, hk⟩ := of_pick hq
    obtain rfl := unI_eq h0
    obtain rfl := unI_eq h1
    exact okW_ends (mkE_ok (all_cons good116 (all_cons good118 (all_cons good119 (all_cons good120 all_nil)))) (all_cons goodR116 (all_cons goodR118 (all_cons goodR119 (all_cons goodR120 all_nil))))) mixed Tryz.func110 rfl fit110 (n110_run k _ _  _ hk)
  · cases h
end Go.Proofs.YtofklpmlgfbmlaaGreat.ZRat
namespace Go.Proofs.YtofklpmlgfbmlaaGreat.ZRat
open Go.RowKit Go.Proofs.YtofklpmlgfbmlaaGreat.Wd
open Go Go.Proofs.YtofklpmlgfbmlaaGreat.Ab Go.Proofs
set_option linter.unusedSimpArgs false
set_option linter.unusedVariables false
set_option maxHeartbeats 4000000
set_option maxRecDepth 10000
noncomputable def E155 : Env := mkE [] [116] [(3, [0, 3, 4, 5])] []
theorem n155_ls (r : (List Int)) (k : Nat) : (∀ (x0 : List Int) (x3 : List Int) (x4 : Int) (x5 : Int), zelligeref03_Half.l0 k x0 x3 x4 x5 = some r → AEnds E155 (finW Tryz.prog Tryz.f155.results) 0 (atLoop Tryz.f155 3) ⟨fr 32 [(0, (rowI .i64 x0)), (3, .own 0 0 x3.length 1), (4, (.int .i64 x4)), (5, (.int .i64 x5))], [.arr ((x3).map (.int .i64))], [false]⟩ (rowI .i64 r)) := by
  induction k using Nat.strongRecOn with
  | _ k ih =>
  intro x0 x3 x4 x5 h
  cases k with
  | zero => simp [zelligeref03_Half.l0] at h
  | succ k1 =>
  simp only [zelligeref03_Half.l0] at h
  simp only [Tryz.f155, atLoop, seek, firstR, reduceIte, Option.getD_some, Nat.reduceEqDiff]
  rcases ite_some h with ⟨c2, h⟩ | ⟨c2, h⟩
  · rcases ite_some h with ⟨c3, h⟩ | ⟨c3, h⟩
    · rcases ite_some h with ⟨c4, h⟩ | ⟨c4, h⟩
      · rcases ite_some h with ⟨c5, h⟩ | ⟨c5, h⟩
        · simp (maxSteps := 2000000) (disch := (first | omega | (simp only [List.length_append, List.length_map, List.length_cons, List.length_nil, List.length_set, List.length_replicate, List.length_take, List.size_toArray]; omega))) [E155, c2, c3, c4, c5]
          refine AEnds.againS ((ih k1 (by omega)) _ _ _ _  h) ?_
          simp only [E155, firstR, mk_keep, keepT, List.find?, Nat.reduceBEq, Option.map_some, Option.getD_some]
          simp (maxSteps := 2000000) (disch := (first | omega | (simp only [List.length_append, List.length_map, List.length_cons, List.length_nil, List.length_set, List.length_replicate, List.length_take, List.size_toArray]; omega))) [E155, c2, c3, c4, c5]
          try omega
        · cases h
      · cases h
    · cases h
  · obtain ⟨t6, e7, h⟩ := Option.bind_eq_some_iff.1 h
    have p8 := pick_of (fun k r h => zelligeref03_Trim.mono _  k r h) e7
    obtain rfl := Option.some.inj h
    simp (maxSteps := 2000000) (disch := (first | omega | (simp only [List.length_append, List.length_map, List.length_cons, List.length_nil, List.length_set, List.length_replicate, List.length_take, List.size_toArray]; omega))) [E155, c2, p8]
    try omega
theorem n155_run (k : Nat) (l0 : List Int) (r : (List Int)) (h : zelligeref03_Half.f k l0 = some r) : AEnds E155 (finW Tryz.prog Tryz.f155.results) 0 [.code (Tryz.f155.body.getD .skip)] (startA Tryz.f155 [(rowI .i64 l0)] [] []) (rowI .i64 r) := by
  unfold zelligeref03_Half.f at h
  simp only [Tryz.f155, Option.getD_some, startA]
  rcases ite_some h with ⟨c9, h⟩ | ⟨c9, h⟩
  · rcases ite_some h with ⟨c10, h⟩ | ⟨c10, h⟩
    · simp (maxSteps := 2000000) (disch := (first | omega | (simp only [List.length_append, List.length_map, List.length_cons, List.length_nil, List.length_set, List.length_replicate, List.length_take, List.size_toArray]; omega))) [E155, c9, c10]
      refine AEnds.loopS ((n155_ls _ _) _ _ _ _  h) ?_
      simp only [E155, firstR, mk_keep, keepT, List.find?, Nat.reduceBEq, Option.map_some, Option.getD_some]
      simp (maxSteps := 2000000) (disch := (first | omega | (simp only [List.length_append, List.length_map, List.length_cons, List.length_nil, List.length_set, List.length_replicate, List.length_take, List.size_toArray]; omega))) [E155, c9, c10]
      try omega
    · cases h
  · cases h
theorem fit155 : Fits Tryz.prog E155.ref E155.dep Tryz.f155 = true := by kernel_rfl
theorem good155 : GoodV 155 := by
  intro xs r h
  simp only [SV] at h
  unfold SV155 at h
  split at h
  · obtain ⟨a0, h0, h⟩ := Option.bind_eq_some_iff.1 h
    obtain ⟨q, hq, rfl⟩ := Option.map_eq_some_iff.1 h
    obtain ⟨k, hk⟩ := of_pick hq
    obtain rfl := unI_eq h0
    exact okW_ends (mkE_ok (all_cons good116 all_nil) (all_cons goodR116 all_nil)) mixed Tryz.func155 rfl fit155 (n155_run k _  _ hk)
  · cases h
theorem goodR155 : GoodR 155 := fun _ _ _ _ _ _ h => by simp [SR] at h
end Go.Proofs.YtofklpmlgfbmlaaGreat.ZRat
namespace Go.Proofs.YtofklpmlgfbmlaaGreat.ZRat
open Go.RowKit Go.Proofs.YtofklpmlgfbmlaaGreat.Wd
open Go Go.Proofs.YtofklpmlgfbmlaaGreat.Ab Go.Proofs
set_option linter.unusedSimpArgs false
set_option linter.unusedVariables false
set_option maxHeartbeats 4000000
set_option maxRecDepth 10000
noncomputable def E109 : Env := mkE [] [79, 118, 119, 120, 155] [(7, [5, 6, 7, 8]), (9, [5, 6, 7, 8]), (10, [5, 6, 7, 8]), (12, [5, 6, 7, 8]), (18, [5, 7, 8, 9])] []
theorem n109_ls (r : (List Int)) (k : Nat) : (∀ (x5 : List Int) (x6 : List Int) (x7 : List Int) (x8 : Int), zelligeref03_Gcd.l0 k x5 x6 x7 x8 = some r → AEnds E109 (finW Tryz.prog Tryz.f109.results) 0 (atLoop Tryz.f109 7) ⟨fr 76 [(5, .own 0 0 x5.length 1), (6, (rowI .i64 x6)), (7, (rowI .i64 x7)), (8, (.int .i64 x8))], [.arr ((x5).map (.int .i64))], [false]⟩ (rowI .i64 r)) ∧ (∀ (x5 : List Int) (x6 : List Int) (x7 : List Int) (x8 : Int), zelligeref03_Gcd.l1 k x5 x6 x7 x8 = some r → AEnds E109 (finW Tryz.prog Tryz.f109.results) 0 (atLoop Tryz.f109 9) ⟨fr 76 [(5, .own 0 0 x5.length 1), (6, (rowI .i64 x6)), (7, (rowI .i64 x7)), (8, (.int .i64 x8))], [.arr ((x5).map (.int .i64))], [false]⟩ (rowI .i64 r)) ∧ (∀ (x5 : List Int) (x6 : List Int) (x7 : List Int) (x8 : Int), zelligeref03_Gcd.l2 k x5 x6 x7 x8 = some r → AEnds E109 (finW Tryz.prog Tryz.f109.results) 0 (atLoop Tryz.f109 10) ⟨fr 76 [(5, .own 0 0 x5.length 1), (6, (rowI .i64 x6)), (7, (rowI .i64 x7)), (8, (.int .i64 x8))], [.arr ((x5).map (.int .i64))], [false]⟩ (rowI .i64 r)) ∧ (∀ (x5 : List Int) (x6 : List Int) (x7 : List Int) (x8 : Int), zelligeref03_Gcd.l3 k x5 x6 x7 x8 = some r → AEnds E109 (finW Tryz.prog Tryz.f109.results) 0 (atLoop Tryz.f109 12) ⟨fr 76 [(5, .own 0 0 x5.length 1), (6, (rowI .i64 x6)), (7, (rowI .i64 x7)), (8, (.int .i64 x8))], [.arr ((x5).map (.int .i64))], [false]⟩ (rowI .i64 r)) ∧ (∀ (x5 : List Int) (x7 : List Int) (x8 : Int) (x9 : Int), zelligeref03_Gcd.l4 k x5 x7 x8 x9 = some r → AEnds E109 (finW Tryz.prog Tryz.f109.results) 0 (atLoop Tryz.f109 18) ⟨fr 76 [(5, (rowI .i64 x5)), (7, (rowI .i64 x7)), (8, (.int .i64 x8)), (9, (.int .i64 x9))], [], []⟩ (rowI .i64 r)) ∧ (∀ (x5 : List Int) (x7 : List Int) (x8 : Int) (x9 : Int), zelligeref03_Gcd.l4 k x5 x7 x8 x9 = some r → AEnds E109 (finW Tryz.prog Tryz.f109.results) 0 (atLoop Tryz.f109 18) ⟨fr 76 [(5, .own 0 0 x5.length 1), (7, (rowI .i64 x7)), (8, (.int .i64 x8)), (9, (.int .i64 x9))], [.arr ((x5).map (.int .i64))], [false]⟩ (rowI .i64 r)) := by
  induction k using Nat.strongRecOn with
  | _ k ih =>
  refine ⟨?_, ?_, ?_, ?_, ?_, ?_⟩
  · intro x5 x6 x7 x8 h
    cases k with
    | zero => simp [zelligeref03_Gcd.l0] at h
    | succ k1 =>
    simp only [zelligeref03_Gcd.l0] at h
    simp only [Tryz.f109, atLoop, seek, firstR, reduceIte, Option.getD_some, Nat.reduceEqDiff]
    rcases ite_some h with ⟨c2, h⟩ | ⟨c2, h⟩
    · rcases ite_some h with ⟨c3, h⟩ | ⟨c3, h⟩
      · rcases ite_some h with ⟨c4, h⟩ | ⟨c4, h⟩
        · cases k1 with
          | zero => simp [zelligeref03_Gcd.j1] at h
          | succ k5 =>
          simp only [zelligeref03_Gcd.j1] at h
          rcases ite_some h with ⟨c6, h⟩ | ⟨c6, h⟩
          · obtain ⟨t7, e8, h⟩ := Option.bind_eq_some_iff.1 h
            have p9 := pick_of (fun k r h => zelligeref03_Half.mono _  k r h) e8
            obtain ⟨t10, e11, h⟩ := Option.bind_eq_some_iff.1 h
            have p12 := pick_of (fun k r h => zelligeref03_Half.mono _  k r h) e11
            simp (maxSteps := 2000000) (disch := (first | omega | (simp only [List.length_append, List.length_map, List.length_cons, List.length_nil, List.length_set, List.length_replicate, List.length_take, List.size_toArray]; omega))) [E109, c2, c3, c4, c6, p9, p12]
            refine AEnds.againS ((ih k5 (by omega)).1 _ _ _ _  h) ?_
            simp only [E109, firstR, mk_keep, keepT, List.find?, Nat.reduceBEq, Option.map_some, Option.getD_some]
            simp (maxSteps := 2000000) (disch := (first | omega | (simp only [List.length_append, List.length_map, List.length_cons, List.length_nil, List.length_set, List.length_replicate, List.length_take, List.size_toArray]; omega))) [E109, c2, c3, c4, c6, p9, p12]
            try omega
          · simp (maxSteps := 2000000) (disch := (first | omega | (simp only [List.length_append, List.length_map, List.length_cons, List.length_nil, List.length_set, List.length_replicate, List.length_take, List.size_toArray]; omega))) [E109, c2, c3, c4, c6]
            refine AEnds.loopS ((ih k5 (by omega)).2.1 _ _ _ _  h) ?_
            simp only [E109, firstR, mk_keep, keepT, List.find?, Nat.reduceBEq, Option.map_some, Option.getD_some]
            simp (maxSteps := 2000000) (disch := (first | omega | (simp only [List.length_append, List.length_map, List.length_cons, List.length_nil, List.length_set, List.length_replicate, List.length_take, List.size_toArray]; omega))) [E109, c2, c3, c4, c6]
            try omega
        · cases h
      · cases k1 with
        | zero => simp [zelligeref03_Gcd.j1] at h
        | succ k13 =>
        simp only [zelligeref03_Gcd.j1] at h
        rcases ite_some h with ⟨c14, h⟩ | ⟨c14, h⟩
        · simp at c14
        · simp (maxSteps := 2000000) (disch := (first | omega | (simp only [List.length_append, List.length_map, List.length_cons, List.length_nil, List.length_set, List.length_replicate, List.length_take, List.size_toArray]; omega))) [E109, c2, c3]
          refine AEnds.loopS ((ih k13 (by omega)).2.1 _ _ _ _  h) ?_
          simp only [E109, firstR, mk_keep, keepT, List.find?, Nat.reduceBEq, Option.map_some, Option.getD_some]
          simp (maxSteps := 2000000) (disch := (first | omega | (simp only [List.length_append, List.length_map, List.length_cons, List.length_nil, List.length_set, List.length_replicate, List.length_take, List.size_toArray]; omega))) [E109, c2, c3]
          try omega
    · cases h
  · intro x5 x6 x7 x8 h
    cases k with
    | zero => simp [zelligeref03_Gcd.l1] at h
    | succ k15 =>
    simp only [zelligeref03_Gcd.l1] at h
    simp only [Tryz.f109, atLoop, seek, firstR, reduceIte, Option.getD_some, Nat.reduceEqDiff]
    rcases ite_some h with ⟨c16, h⟩ | ⟨c16, h⟩
    · simp (maxSteps := 2000000) (disch := (first | omega | (simp only [List.length_append, List.length_map, List.length_cons, List.length_nil, List.length_set, List.length_replicate, List.length_take, List.size_toArray]; omega))) [E109, c16]
      refine AEnds.loopS ((ih k15 (by omega)).2.2.1 _ _ _ _  h) ?_
      simp only [E109, firstR, mk_keep, keepT, List.find?, Nat.reduceBEq, Option.map_some, Option.getD_some]
      simp (maxSteps := 2000000) (disch := (first | omega | (simp only [List.length_append, List.length_map, List.length_cons, List.length_nil, List.length_set, List.length_replicate, List.length_take, List.size_toArray]; omega))) [E109, c16]
      try omega
    · simp (maxSteps := 2000000) (disch := (first | omega | (simp only [List.length_append, List.length_map, List.length_cons, List.length_nil, List.length_set, List.length_replicate, List.length_take, List.size_toArray]; omega))) [E109, c16]
      refine AEnds.loopS ((ih k15 (by omega)).2.2.2.2.2 _ _ _ _  h) ?_
      simp only [E109, firstR, mk_keep, keepT, List.find?, Nat.reduceBEq, Option.map_some, Option.getD_some]
      simp (maxSteps := 2000000) (disch := (first | omega | (simp only [List.length_append, List.length_map, List.length_cons, List.length_nil, List.length_set, List.length_replicate, List.length_take, List.size_toArray]; omega))) [E109, c16]
      try omega
  · intro x5 x6 x7 x8 h
    cases k with
    | zero => simp [zelligeref03_Gcd.l2] at h
    | succ k17 =>
    simp only [zelligeref03_Gcd.l2] at h
    simp only [Tryz.f109, atLoop, seek, firstR, reduceIte, Option.getD_some, Nat.reduceEqDiff]
    rcases ite_some h with ⟨c18, h⟩ | ⟨c18, h⟩
    · rcases ite_some h with ⟨c19, h⟩ | ⟨c19, h⟩
      · obtain ⟨t20, e21, h⟩ := Option.bind_eq_some_iff.1 h
        have p22 := pick_of (fun k r h => zelligeref03_Half.mono _  k r h) e21
        simp (maxSteps := 2000000) (disch := (first | omega | (simp only [List.length_append, List.length_map, List.length_cons, List.length_nil, List.length_set, List.length_replicate, List.length_take, List.size_toArray]; omega))) [E109, c18, c19, p22]
        refine AEnds.againS ((ih k17 (by omega)).2.2.1 _ _ _ _  h) ?_
        simp only [E109, firstR, mk_keep, keepT, List.find?, Nat.reduceBEq, Option.map_some, Option.getD_some]
        simp (maxSteps := 2000000) (disch := (first | omega | (simp only [List.length_append, List.length_map, List.length_cons, List.length_nil, List.length_set, List.length_replicate, List.length_take, List.size_toArray]; omega))) [E109, c18, c19, p22]
        try omega
      · simp (maxSteps := 2000000) (disch := (first | omega | (simp only [List.length_append, List.length_map, List.length_cons, List.length_nil, List.length_set, List.length_replicate, List.length_take, List.size_toArray]; omega))) [E109, c18, c19]
        refine AEnds.loopS ((ih k17 (by omega)).2.2.2.1 _ _ _ _  h) ?_
        simp only [E109, firstR, mk_keep, keepT, List.find?, Nat.reduceBEq, Option.map_some, Option.getD_some]
        simp (maxSteps := 2000000) (disch := (first | omega | (simp only [List.length_append, List.length_map, List.length_cons, List.length_nil, List.length_set, List.length_replicate, List.length_take, List.size_toArray]; omega))) [E109, c18, c19]
        try omega
    · cases h
  · intro x5 x6 x7 x8 h
    cases k with
    | zero => simp [zelligeref03_Gcd.l3] at h
    | succ k23 =>
    simp only [zelligeref03_Gcd.l3] at h
    simp only [Tryz.f109, atLoop, seek, firstR, reduceIte, Option.getD_some, Nat.reduceEqDiff]
    rcases ite_some h with ⟨c24, h⟩ | ⟨c24, h⟩
    · rcases ite_some h with ⟨c25, h⟩ | ⟨c25, h⟩
      · obtain ⟨t26, e27, h⟩ := Option.bind_eq_some_iff.1 h
        have p28 := pick_of (fun k r h => zelligeref03_Half.mono _  k r h) e27
        simp (maxSteps := 2000000) (disch := (first | omega | (simp only [List.length_append, List.length_map, List.length_cons, List.length_nil, List.length_set, List.length_replicate, List.length_take, List.size_toArray]; omega))) [E109, c24, c25, p28]
        refine AEnds.againS ((ih k23 (by omega)).2.2.2.1 _ _ _ _  h) ?_
        simp only [E109, firstR, mk_keep, keepT, List.find?, Nat.reduceBEq, Option.map_some, Option.getD_some]
        simp (maxSteps := 2000000) (disch := (first | omega | (simp only [List.length_append, List.length_map, List.length_cons, List.length_nil, List.length_set, List.length_replicate, List.length_take, List.size_toArray]; omega))) [E109, c24, c25, p28]
        try omega
      · obtain ⟨t29, e30, h⟩ := Option.bind_eq_some_iff.1 h
        have p31 := pick_of (fun k r h => zelligeref03_Cmp.mono _ _  k r h) e30
        rcases ite_some h with ⟨c32, h⟩ | ⟨c32, h⟩
        · obtain ⟨t33, e34, h⟩ := Option.bind_eq_some_iff.1 h
          have p35 := pick_of (fun k r h => zelligeref03_Sub.mono _ _  k r h) e34
          simp (maxSteps := 2000000) (disch := (first | omega | (simp only [List.length_append, List.length_map, List.length_cons, List.length_nil, List.length_set, List.length_replicate, List.length_take, List.size_toArray]; omega))) [E109, c24, c25, p31, c32, p35]
          refine AEnds.againS ((ih k23 (by omega)).2.1 _ _ _ _  h) ?_
          simp only [E109, firstR, mk_keep, keepT, List.find?, Nat.reduceBEq, Option.map_some, Option.getD_some]
          simp (maxSteps := 2000000) (disch := (first | omega | (simp only [List.length_append, List.length_map, List.length_cons, List.length_nil, List.length_set, List.length_replicate, List.length_take, List.size_toArray]; omega))) [E109, c24, c25, p31, c32, p35]
          try omega
        · obtain ⟨t36, e37, h⟩ := Option.bind_eq_some_iff.1 h
          have p38 := pick_of (fun k r h => zelligeref03_Sub.mono _ _  k r h) e37
          simp (maxSteps := 2000000) (disch := (first | omega | (simp only [List.length_append, List.length_map, List.length_cons, List.length_nil, List.length_set, List.length_replicate, List.length_take, List.size_toArray]; omega))) [E109, c24, c25, p31, c32, p38]
          refine AEnds.againS ((ih k23 (by omega)).2.1 _ _ _ _  h) ?_
          simp only [E109, firstR, mk_keep, keepT, List.find?, Nat.reduceBEq, Option.map_some, Option.getD_some]
          simp (maxSteps := 2000000) (disch := (first | omega | (simp only [List.length_append, List.length_map, List.length_cons, List.length_nil, List.length_set, List.length_replicate, List.length_take, List.size_toArray]; omega))) [E109, c24, c25, p31, c32, p38]
          try omega
    · cases h
  · intro x5 x7 x8 x9 h
    cases k with
    | zero => simp [zelligeref03_Gcd.l4] at h
    | succ k39 =>
    simp only [zelligeref03_Gcd.l4] at h
    simp only [Tryz.f109, atLoop, seek, firstR, reduceIte, Option.getD_some, Nat.reduceEqDiff]
    rcases ite_some h with ⟨c40, h⟩ | ⟨c40, h⟩
    · obtain ⟨t41, e42, h⟩ := Option.bind_eq_some_iff.1 h
      have p43 := pick_of (fun k r h => zelligeref03_Add.mono _ _  k r h) e42
      simp (maxSteps := 2000000) (disch := (first | omega | (simp only [List.length_append, List.length_map, List.length_cons, List.length_nil, List.length_set, List.length_replicate, List.length_take, List.size_toArray]; omega))) [E109, c40, p43]
      refine AEnds.againS ((ih k39 (by omega)).2.2.2.2.1 _ _ _ _  h) ?_
      simp only [E109, firstR, mk_keep, keepT, List.find?, Nat.reduceBEq, Option.map_some, Option.getD_some]
      simp (maxSteps := 2000000) (disch := (first | omega | (simp only [List.length_append, List.length_map, List.length_cons, List.length_nil, List.length_set, List.length_replicate, List.length_take, List.size_toArray]; omega))) [E109, c40, p43]
      try omega
    · obtain ⟨t44, e45, h⟩ := Option.bind_eq_some_iff.1 h
      have p46 := pick_of (fun k r h => zelligeref03_Mul.mono _ _  k r h) e45
      obtain rfl := Option.some.inj h
      simp (maxSteps := 2000000) (disch := (first | omega | (simp only [List.length_append, List.length_map, List.length_cons, List.length_nil, List.length_set, List.length_replicate, List.length_take, List.size_toArray]; omega))) [E109, c40, p46]
      try omega
  · intro x5 x7 x8 x9 h
    cases k with
    | zero => simp [zelligeref03_Gcd.l4] at h
    | succ k47 =>
    simp only [zelligeref03_Gcd.l4] at h
    simp only [Tryz.f109, atLoop, seek, firstR, reduceIte, Option.getD_some, Nat.reduceEqDiff]
    rcases ite_some h with ⟨c48, h⟩ | ⟨c48, h⟩
    · obtain ⟨t49, e50, h⟩ := Option.bind_eq_some_iff.1 h
      have p51 := pick_of (fun k r h => zelligeref03_Add.mono _ _  k r h) e50
      simp (maxSteps := 2000000) (disch := (first | omega | (simp only [List.length_append, List.length_map, List.length_cons, List.length_nil, List.length_set, List.length_replicate, List.length_take, List.size_toArray]; omega))) [E109, c48, p51]
      refine AEnds.againS ((ih k47 (by omega)).2.2.2.2.1 _ _ _ _  h) ?_
      simp only [E109, firstR, mk_keep, keepT, List.find?, Nat.reduceBEq, Option.map_some, Option.getD_some]
      simp (maxSteps := 2000000) (disch := (first | omega | (simp only [List.length_append, List.length_map, List.length_cons, List.length_nil, List.length_set, List.length_replicate, List.length_take, List.size_toArray]; omega))) [E109, c48, p51]
      try omega
    · obtain ⟨t52, e53, h⟩ := Option.bind_eq_some_iff.1 h
      have p54 := pick_of (fun k r h => zelligeref03_Mul.mono _ _  k r h) e53
      obtain rfl := Option.some.inj h
      simp (maxSteps := 2000000) (disch := (first | omega | (simp only [List.length_append, List.length_map, List.length_cons, List.length_nil, List.length_set, List.length_replicate, List.length_take, List.size_toArray]; omega))) [E109, c48, p54]
      try omega
theorem n109_run (k : Nat) (l0 : List Int) (l1 : List Int) (r : (List Int)) (h : zelligeref03_Gcd.f k l0 l1 = some r) : AEnds E109 (finW Tryz.prog Tryz.f109.results) 0 [.code (Tryz.f109.body.getD .skip)] (startA Tryz.f109 [(rowI .i64 l0), (rowI .i64 l1)] [] []) (rowI .i64 r) := by
  unfold zelligeref03_Gcd.f at h
  simp only [Tryz.f109, Option.getD_some, startA]
  rcases ite_some h with ⟨c55, h⟩ | ⟨c55, h⟩
  · obtain rfl := Option.some.inj h
    simp (maxSteps := 2000000) (disch := (first | omega | (simp only [List.length_append, List.length_map, List.length_cons, List.length_nil, List.length_set, List.length_replicate, List.length_take, List.size_toArray]; omega))) [E109, c55]
    try omega
  · rcases ite_some h with ⟨c56, h⟩ | ⟨c56, h⟩
    · obtain rfl := Option.some.inj h
      simp (maxSteps := 2000000) (disch := (first | omega | (simp only [List.length_append, List.length_map, List.length_cons, List.length_nil, List.length_set, List.length_replicate, List.length_take, List.size_toArray]; omega))) [E109, c55, c56]
      try omega
    · simp (maxSteps := 2000000) (disch := (first | omega | (simp only [List.length_append, List.length_map, List.length_cons, List.length_nil, List.length_set, List.length_replicate, List.length_take, List.size_toArray]; omega))) [E109, c55, c56]
      refine AEnds.loopS ((n109_ls _ _).1 _ _ _ _  h) ?_
      simp only [E109, firstR, mk_keep, keepT, List.find?, Nat.reduceBEq, Option.map_some, Option.getD_some]
      simp (maxSteps := 2000000) (disch := (first | omega | (simp only [List.length_append, List.length_map, List.length_cons, List.length_nil, List.length_set, List.length_replicate, List.length_take, List.size_toArray]; omega))) [E109, c55, c56]
      try omega
theorem fit109 : Fits Tryz.prog E109.ref E109.dep Tryz.f109 = true := by kernel_rfl
theorem good109 : GoodV 109 := by
  intro xs r h
  simp only [SV] at h
  unfold SV109 at h
  split at h
  · obtain ⟨a0, h0, h⟩ := Option.bind_eq_some_iff.1 h
    obtain ⟨a1, h1, h⟩ := Option.bind_eq_some_iff.1 h
    obtain ⟨q, hq, rfl⟩ := Option.map_eq_some_iff.1 h
    obtain ⟨k, hk⟩ := of_pick hq
    obtain rfl := unI_eq h0
    obtain rfl := unI_eq h1
    exact okW_ends (mkE_ok (all_cons good79 (all_cons good118 (all_cons good119 (all_cons good120 (all_cons good155 all_nil))))) (all_cons goodR79 (all_cons goodR118 (all_cons goodR119 (all_cons goodR120 (all_cons goodR155 all_nil)))))) mixed Tryz.func109 rfl fit109 (n109_run k _ _  _ hk)
  · cases h
end Go.Proofs.YtofklpmlgfbmlaaGreat.ZRat
namespace Go.Proofs.YtofklpmlgfbmlaaGreat.ZRat
open Go.RowKit Go.Proofs.YtofklpmlgfbmlaaGreat.Wd
open Go Go.Proofs.YtofklpmlgfbmlaaGreat.Ab Go.Proofs
set_option linter.unusedSimpArgs false
set_option linter.unusedVariables false
set_option maxHeartbeats 4000000
set_option maxRecDepth 10000
noncomputable def E91 : Env := mkE [] [144] [] []
theorem n91_run (k : Nat) (a0 : Bool) (l1 : List Int) (r : (Bool × List Int)) (h : whole_norm.f k a0 l1 = some r) : AEnds E91 (finW Tryz.prog Tryz.f91.results) 0 [.code (Tryz.f91.body.getD .skip)] (startA Tryz.f91 [(.bool a0), (rowI .u32 l1)] [] []) (.agg [(.bool r.1), (rowI .u32 r.2)]) := by
  unfold whole_norm.f at h
  simp only [Tryz.f91, Option.getD_some, startA]
  obtain ⟨t1, e2, h⟩ := Option.bind_eq_some_iff.1 h
  have p3 := pick_of (fun k r h => nat_Trim.mono _  k r h) e2
  rcases ite_some h with ⟨c4, h⟩ | ⟨c4, h⟩
  · obtain rfl := Option.some.inj h
    simp (maxSteps := 2000000) (disch := (first | omega | (simp only [List.length_append, List.length_map, List.length_cons, List.length_nil, List.length_set, List.length_replicate, List.length_take, List.size_toArray]; omega))) [E91, p3, c4]
    try omega
  · obtain rfl := Option.some.inj h
    simp (maxSteps := 2000000) (disch := (first | omega | (simp only [List.length_append, List.length_map, List.length_cons, List.length_nil, List.length_set, List.length_replicate, List.length_take, List.size_toArray]; omega))) [E91, p3, c4]
    try omega
theorem fit91 : Fits Tryz.prog E91.ref E91.dep Tryz.f91 = true := by kernel_rfl
theorem good91 : GoodV 91 := by
  intro xs r h
  simp only [SV] at h
  unfold SV91 at h
  split at h
  · obtain ⟨a0, h0, h⟩ := Option.bind_eq_some_iff.1 h
    obtain ⟨a1, h1, h⟩ := Option.bind_eq_some_iff.1 h
    obtain ⟨q, hq, rfl⟩ := Option.map_eq_some_iff.1 h
    obtain ⟨k, hk⟩ := of_pick hq
    obtain rfl := unB_eq h0
    obtain rfl := unI_eq h1
    exact okW_ends (mkE_ok (all_cons good144 all_nil) (all_cons goodR144 all_nil)) mixed Tryz.func91 rfl fit91 (n91_run k _ _  _ hk)
  · cases h
theorem goodR91 : GoodR 91 := fun _ _ _ _ _ _ h => by simp [SR] at h
end Go.Proofs.YtofklpmlgfbmlaaGreat.ZRat
namespace Go.Proofs.YtofklpmlgfbmlaaGreat.ZRat
open Go.RowKit Go.Proofs.YtofklpmlgfbmlaaGreat.Wd
open Go Go.Proofs.YtofklpmlgfbmlaaGreat.Ab Go.Proofs
set_option linter.unusedSimpArgs false
set_option linter.unusedVariables false
set_option maxHeartbeats 4000000
set_option maxRecDepth 10000
noncomputable def E156 : Env := mkE [] [91] [] []
theorem n156_run (k : Nat) (a0_0 : Bool) (l0_1 : List Int) (r : (Bool × List Int)) (h : whole_Norm.f k a0_0 l0_1 = some r) : AEnds E156 (finW Tryz.prog Tryz.f156.results) 0 [.code (Tryz.f156.body.getD .skip)] (startA Tryz.f156 [(.agg [(.bool a0_0), (rowI .u32 l0_1)])] [] []) (.agg [(.bool r.1), (rowI .u32 r.2)]) := by
  unfold whole_Norm.f at h
  simp only [Tryz.f156, Option.getD_some, startA]
  obtain ⟨t1, e2, h⟩ := Option.bind_eq_some_iff.1 h
  have p3 := pick_of (fun k r h => whole_norm.mono _ _  k r h) e2
  obtain rfl := Option.some.inj h
  simp (maxSteps := 2000000) (disch := (first | omega | (simp only [List.length_append, List.length_map, List.length_cons, List.length_nil, List.length_set, List.length_replicate, List.length_take, List.size_toArray]; omega))) [E156, p3]
  try omega
theorem fit156 : Fits Tryz.prog E156.ref E156.dep Tryz.f156 = true := by kernel_rfl
theorem good156 : GoodV 156 := by
  intro xs r h
  simp only [SV] at h
  unfold SV156 at h
  split at h
  · obtain ⟨a0, h0, h⟩ := Option.bind_eq_some_iff.1 h
    obtain ⟨a1, h1, h⟩ := Option.bind_eq_some_iff.1 h
    obtain ⟨q, hq, rfl⟩ := Option.map_eq_some_iff.1 h
    obtain ⟨k, hk⟩ := of_pick hq
    obtain rfl := unB_eq h0
    obtain rfl := unI_eq h1
    exact okW_ends (mkE_ok (all_cons good91 all_nil) (all_cons goodR91 all_nil)) mixed Tryz.func156 rfl fit156 (n156_run k _ _  _ hk)
  · cases h
end Go.Proofs.YtofklpmlgfbmlaaGreat.ZRat
namespace Go.Proofs.YtofklpmlgfbmlaaGreat.ZRat
open Go.RowKit Go.Proofs.YtofklpmlgfbmlaaGreat.Wd
open Go Go.Proofs.YtofklpmlgfbmlaaGreat.Ab Go.Proofs
set_option linter.unusedSimpArgs false
set_option linter.unusedVariables false
set_option maxHeartbeats 4000000
set_option maxRecDepth 10000
noncomputable def E153 : Env := mkE [] [91] [] []
theorem n153_run (k : Nat) (a0_0 : Bool) (l0_1 : List Int) (r : (Bool × List Int)) (h : whole_neg.f k a0_0 l0_1 = some r) : AEnds E153 (finW Tryz.prog Tryz.f153.results) 0 [.code (Tryz.f153.body.getD .skip)] (startA Tryz.f153 [(.agg [(.bool a0_0), (rowI .u32 l0_1)])] [] []) (.agg [(.bool r.1), (rowI .u32 r.2)]) := by
  unfold whole_neg.f at h
  simp only [Tryz.f153, Option.getD_some, startA]
  obtain ⟨t1, e2, h⟩ := Option.bind_eq_some_iff.1 h
  have p3 := pick_of (fun k r h => whole_norm.mono _ _  k r h) e2
  obtain rfl := Option.some.inj h
  simp (maxSteps := 2000000) (disch := (first | omega | (simp only [List.length_append, List.length_map, List.length_cons, List.length_nil, List.length_set, List.length_replicate, List.length_take, List.size_toArray]; omega))) [E153, p3]
  try omega
theorem fit153 : Fits Tryz.prog E153.ref E153.dep Tryz.f153 = true := by kernel_rfl
theorem good153 : GoodV 153 := by
  intro xs r h
  simp only [SV] at h
  unfold SV153 at h
  split at h
  · obtain ⟨a0, h0, h⟩ := Option.bind_eq_some_iff.1 h
    obtain ⟨a1, h1, h⟩ := Option.bind_eq_some_iff.1 h
    obtain ⟨q, hq, rfl⟩ := Option.map_eq_some_iff.1 h
    obtain ⟨k, hk⟩ := of_pick hq
    obtain rfl := unB_eq h0
    obtain rfl := unI_eq h1
    exact okW_ends (mkE_ok (all_cons good91 all_nil) (all_cons goodR91 all_nil)) mixed Tryz.func153 rfl fit153 (n153_run k _ _  _ hk)
  · cases h
theorem goodR153 : GoodR 153 := fun _ _ _ _ _ _ h => by simp [SR] at h
end Go.Proofs.YtofklpmlgfbmlaaGreat.ZRat
namespace Go.Proofs.YtofklpmlgfbmlaaGreat.ZRat
open Go.RowKit Go.Proofs.YtofklpmlgfbmlaaGreat.Wd
open Go Go.Proofs.YtofklpmlgfbmlaaGreat.Ab Go.Proofs
set_option linter.unusedSimpArgs false
set_option linter.unusedVariables false
set_option maxHeartbeats 4000000
set_option maxRecDepth 10000
noncomputable def E113 : Env := mkE [] [153] [] []
theorem n113_run (k : Nat) (a0_0 : Bool) (l0_1 : List Int) (r : (Bool × List Int)) (h : whole_Neg.f k a0_0 l0_1 = some r) : AEnds E113 (finW Tryz.prog Tryz.f113.results) 0 [.code (Tryz.f113.body.getD .skip)] (startA Tryz.f113 [(.agg [(.bool a0_0), (rowI .u32 l0_1)])] [] []) (.agg [(.bool r.1), (rowI .u32 r.2)]) := by
  unfold whole_Neg.f at h
  simp only [Tryz.f113, Option.getD_some, startA]
  obtain ⟨t1, e2, h⟩ := Option.bind_eq_some_iff.1 h
  have p3 := pick_of (fun k r h => whole_neg.mono _ _  k r h) e2
  obtain rfl := Option.some.inj h
  simp (maxSteps := 2000000) (disch := (first | omega | (simp only [List.length_append, List.length_map, List.length_cons, List.length_nil, List.length_set, List.length_replicate, List.length_take, List.size_toArray]; omega))) [E113, p3]
  try omega
theorem fit113 : Fits Tryz.prog E113.ref E113.dep Tryz.f113 = true := by kernel_rfl
theorem good113 : GoodV 113 := by
  intro xs r h
  simp only [SV] at h
  unfold SV113 at h
  split at h
  · obtain ⟨a0, h0, h⟩ := Option.bind_eq_some_iff.1 h
    obtain ⟨a1, h1, h⟩ := Option.bind_eq_some_iff.1 h
    obtain ⟨q, hq, rfl⟩ := Option.map_eq_some_iff.1 h
    obtain ⟨k, hk⟩ := of_pick hq
    obtain rfl := unB_eq h0
    obtain rfl := unI_eq h1
    exact okW_ends (mkE_ok (all_cons good153 all_nil) (all_cons goodR153 all_nil)) mixed Tryz.func113 rfl fit113 (n113_run k _ _  _ hk)
  · cases h
end Go.Proofs.YtofklpmlgfbmlaaGreat.ZRat
namespace Go.Proofs.YtofklpmlgfbmlaaGreat.ZRat
open Go.RowKit Go.Proofs.YtofklpmlgfbmlaaGreat.Wd
open Go Go.Proofs.YtofklpmlgfbmlaaGreat.Ab Go.Proofs
set_option linter.unusedSimpArgs false
set_option linter.unusedVariables false
set_option maxHeartbeats 4000000
set_option maxRecDepth 10000
noncomputable def E47 : Env := mkE [] [91, 92] [] []
theorem n47_run (k : Nat) (a0_0 : Bool) (l0_1 : List Int) (a1_0 : Bool) (l1_1 : List Int) (r : (Bool × List Int)) (h : whole_Mul.f k a0_0 l0_1 a1_0 l1_1 = some r) : AEnds E47 (finW Tryz.prog Tryz.f47.results) 0 [.code (Tryz.f47.body.getD .skip)] (startA Tryz.f47 [(.agg [(.bool a0_0), (rowI .u32 l0_1)]), (.agg [(.bool a1_0), (rowI .u32 l1_1)])] [] []) (.agg [(.bool r.1), (rowI .u32 r.2)]) := by
  unfold whole_Mul.f at h
  simp only [Tryz.f47, Option.getD_some, startA]
  obtain ⟨t1, e2, h⟩ := Option.bind_eq_some_iff.1 h
  have p3 := pick_of (fun k r h => nat_Mul.mono _ _  k r h) e2
  obtain ⟨t4, e5, h⟩ := Option.bind_eq_some_iff.1 h
  have p6 := pick_of (fun k r h => whole_norm.mono _ _  k r h) e5
  simp only [bne] at p6
  obtain rfl := Option.some.inj h
  simp (maxSteps := 2000000) (disch := (first | omega | (simp only [List.length_append, List.length_map, List.length_cons, List.length_nil, List.length_set, List.length_replicate, List.length_take, List.size_toArray]; omega))) [E47, p3, p6]
  try omega
theorem fit47 : Fits Tryz.prog E47.ref E47.dep Tryz.f47 = true := by kernel_rfl
theorem good47 : GoodV 47 := by
  intro xs r h
  simp only [SV] at h
  unfold SV47 at h
  split at h
  · obtain ⟨a0, h0, h⟩ := Option.bind_eq_some_iff.1 h
    obtain ⟨a1, h1, h⟩ := Option.bind_eq_some_iff.1 h
    obtain ⟨a2, h2, h⟩ := Option.bind_eq_some_iff.1 h
    obtain ⟨a3, h3, h⟩ := Option.bind_eq_some_iff.1 h
    obtain ⟨q, hq, rfl⟩ := Option.map_eq_some_iff.1 h
    obtain ⟨k, hk⟩ := of_pick hq
    obtain rfl := unB_eq h0
    obtain rfl := unI_eq h1
    obtain rfl := unB_eq h2
    obtain rfl := unI_eq h3
    exact okW_ends (mkE_ok (all_cons good91 (all_cons good92 all_nil)) (all_cons goodR91 (all_cons goodR92 all_nil))) mixed Tryz.func47 rfl fit47 (n47_run k _ _ _ _  _ hk)
  · cases h
end Go.Proofs.YtofklpmlgfbmlaaGreat.ZRat
namespace Go.Proofs.YtofklpmlgfbmlaaGreat.ZRat
open Go.RowKit Go.Proofs.YtofklpmlgfbmlaaGreat.Wd
open Go Go.Proofs.YtofklpmlgfbmlaaGreat.Ab Go.Proofs
set_option linter.unusedSimpArgs false
set_option linter.unusedVariables false
set_option maxHeartbeats 4000000
set_option maxRecDepth 10000
noncomputable def E94 : Env := mkE [] [147] [] []
theorem n94_run (k : Nat) (a0_0 : Bool) (l0_1 : List Int) (r : (Int)) (h : whole_sign.f k a0_0 l0_1 = some r) : AEnds E94 (finW Tryz.prog Tryz.f94.results) 0 [.code (Tryz.f94.body.getD .skip)] (startA Tryz.f94 [(.agg [(.bool a0_0), (rowI .u32 l0_1)])] [] []) (.int .i64 r) := by
  unfold whole_sign.f at h
  simp only [Tryz.f94, Option.getD_some, startA]
  obtain ⟨t1, e2, h⟩ := Option.bind_eq_some_iff.1 h
  have p3 := pick_of (fun k r h => nat_Bits.mono _  k r h) e2
  rcases ite_some h with ⟨c4, h⟩ | ⟨c4, h⟩
  · obtain rfl := Option.some.inj h
    simp (maxSteps := 2000000) (disch := (first | omega | (simp only [List.length_append, List.length_map, List.length_cons, List.length_nil, List.length_set, List.length_replicate, List.length_take, List.size_toArray]; omega))) [E94, p3, c4]
    try omega
  · rcases ite_some h with ⟨c5, h⟩ | ⟨c5, h⟩
    · obtain rfl := Option.some.inj h
      simp (maxSteps := 2000000) (disch := (first | omega | (simp only [List.length_append, List.length_map, List.length_cons, List.length_nil, List.length_set, List.length_replicate, List.length_take, List.size_toArray]; omega))) [E94, p3, c4, c5]
      try omega
    · obtain rfl := Option.some.inj h
      simp (maxSteps := 2000000) (disch := (first | omega | (simp only [List.length_append, List.length_map, List.length_cons, List.length_nil, List.length_set, List.length_replicate, List.length_take, List.size_toArray]; omega))) [E94, p3, c4, c5]
      try omega
theorem fit94 : Fits Tryz.prog E94.ref E94.dep Tryz.f94 = true := by kernel_rfl
theorem good94 : GoodV 94 := by
  intro xs r h
  simp only [SV] at h
  unfold SV94 at h
  split at h
  · obtain ⟨a0, h0, h⟩ := Option.bind_eq_some_iff.1 h
    obtain ⟨a1, h1, h⟩ := Option.bind_eq_some_iff.1 h
    obtain ⟨q, hq, rfl⟩ := Option.map_eq_some_iff.1 h
    obtain ⟨k, hk⟩ := of_pick hq
    obtain rfl := unB_eq h0
    obtain rfl := unI_eq h1
    exact okW_ends (mkE_ok (all_cons good147 all_nil) (all_cons goodR147 all_nil)) mixed Tryz.func94 rfl fit94 (n94_run k _ _  _ hk)
  · cases h
theorem goodR94 : GoodR 94 := fun _ _ _ _ _ _ h => by simp [SR] at h
end Go.Proofs.YtofklpmlgfbmlaaGreat.ZRat
namespace Go.Proofs.YtofklpmlgfbmlaaGreat.ZRat
open Go.RowKit Go.Proofs.YtofklpmlgfbmlaaGreat.Wd
open Go Go.Proofs.YtofklpmlgfbmlaaGreat.Ab Go.Proofs
set_option linter.unusedSimpArgs false
set_option linter.unusedVariables false
set_option maxHeartbeats 4000000
set_option maxRecDepth 10000
noncomputable def E111 : Env := mkE [] [94] [] []
theorem n111_run (k : Nat) (a0_0 : Bool) (l0_1 : List Int) (r : (Int)) (h : whole_Sign.f k a0_0 l0_1 = some r) : AEnds E111 (finW Tryz.prog Tryz.f111.results) 0 [.code (Tryz.f111.body.getD .skip)] (startA Tryz.f111 [(.agg [(.bool a0_0), (rowI .u32 l0_1)])] [] []) (.int .i64 r) := by
  unfold whole_Sign.f at h
  simp only [Tryz.f111, Option.getD_some, startA]
  obtain ⟨t1, e2, h⟩ := Option.bind_eq_some_iff.1 h
  have p3 := pick_of (fun k r h => whole_sign.mono _ _  k r h) e2
  obtain rfl := Option.some.inj h
  simp (maxSteps := 2000000) (disch := (first | omega | (simp only [List.length_append, List.length_map, List.length_cons, List.length_nil, List.length_set, List.length_replicate, List.length_take, List.size_toArray]; omega))) [E111, p3]
  try omega
theorem fit111 : Fits Tryz.prog E111.ref E111.dep Tryz.f111 = true := by kernel_rfl
theorem good111 : GoodV 111 := by
  intro xs r h
  simp only [SV] at h
  unfold SV111 at h
  split at h
  · obtain ⟨a0, h0, h⟩ := Option.bind_eq_some_iff.1 h
    obtain ⟨a1, h1, h⟩ := Option.bind_eq_some_iff.1 h
    obtain ⟨q, hq, rfl⟩ := Option.map_eq_some_iff.1 h
    obtain ⟨k, hk⟩ := of_pick hq
    obtain rfl := unB_eq h0
    obtain rfl := unI_eq h1
    exact okW_ends (mkE_ok (all_cons good94 all_nil) (all_cons goodR94 all_nil)) mixed Tryz.func111 rfl fit111 (n111_run k _ _  _ hk)
  · cases h
end Go.Proofs.YtofklpmlgfbmlaaGreat.ZRat
namespace Go.Proofs.YtofklpmlgfbmlaaGreat.ZRat
open Go.RowKit Go.Proofs.YtofklpmlgfbmlaaGreat.Wd
open Go Go.Proofs.YtofklpmlgfbmlaaGreat.Ab Go.Proofs
set_option linter.unusedSimpArgs false
set_option linter.unusedVariables false
set_option maxHeartbeats 4000000
set_option maxRecDepth 10000
noncomputable def E48 : Env := mkE [] [91, 93] [] []
theorem n48_run (k : Nat) (a0 : Int) (r : (Bool × List Int)) (h : whole_Of.f k a0 = some r) : AEnds E48 (finW Tryz.prog Tryz.f48.results) 0 [.code (Tryz.f48.body.getD .skip)] (startA Tryz.f48 [(.int .i64 a0)] [] []) (.agg [(.bool r.1), (rowI .u32 r.2)]) := by
  unfold whole_Of.f at h
  simp only [Tryz.f48, Option.getD_some, startA]
  rcases ite_some h with ⟨c1, h⟩ | ⟨c1, h⟩
  · obtain ⟨t2, e3, h⟩ := Option.bind_eq_some_iff.1 h
    have p4 := pick_of (fun k r h => nat_Of.mono _  k r h) e3
    obtain ⟨t5, e6, h⟩ := Option.bind_eq_some_iff.1 h
    have p7 := pick_of (fun k r h => whole_norm.mono _ _  k r h) e6
    obtain rfl := Option.some.inj h
    simp (maxSteps := 2000000) (disch := (first | omega | (simp only [List.length_append, List.length_map, List.length_cons, List.length_nil, List.length_set, List.length_replicate, List.length_take, List.size_toArray]; omega))) [E48, c1, p4, p7]
    try omega
  · obtain ⟨t8, e9, h⟩ := Option.bind_eq_some_iff.1 h
    have p10 := pick_of (fun k r h => nat_Of.mono _  k r h) e9
    obtain ⟨t11, e12, h⟩ := Option.bind_eq_some_iff.1 h
    have p13 := pick_of (fun k r h => whole_norm.mono _ _  k r h) e12
    obtain rfl := Option.some.inj h
    simp (maxSteps := 2000000) (disch := (first | omega | (simp only [List.length_append, List.length_map, List.length_cons, List.length_nil, List.length_set, List.length_replicate, List.length_take, List.size_toArray]; omega))) [E48, c1, p10, p13]
    try omega
theorem fit48 : Fits Tryz.prog E48.ref E48.dep Tryz.f48 = true := by kernel_rfl
theorem good48 : GoodV 48 := by
  intro xs r h
  simp only [SV] at h
  unfold SV48 at h
  split at h
  · obtain ⟨a0, h0, h⟩ := Option.bind_eq_some_iff.1 h
    obtain ⟨q, hq, rfl⟩ := Option.map_eq_some_iff.1 h
    obtain ⟨k, hk⟩ := of_pick hq
    obtain rfl := unN_eq h0
    exact okW_ends (mkE_ok (all_cons good91 (all_cons good93 all_nil)) (all_cons goodR91 (all_cons goodR93 all_nil))) mixed Tryz.func48 rfl fit48 (n48_run k _  _ hk)
  · cases h
end Go.Proofs.YtofklpmlgfbmlaaGreat.ZRat
namespace Go.Proofs.YtofklpmlgfbmlaaGreat.ZRat
open Go.RowKit Go.Proofs.YtofklpmlgfbmlaaGreat.Wd
open Go Go.Proofs.YtofklpmlgfbmlaaGreat.Ab Go.Proofs
set_option linter.unusedSimpArgs false
set_option linter.unusedVariables false
set_option maxHeartbeats 4000000
set_option maxRecDepth 10000
noncomputable def E78 : Env := mkE [] [] [] []
theorem n78_run (k : Nat) (a0 : Int) (l1 : List Int) (r : (Int × List Int)) (h : zelligeref04_make1.f  a0 l1 = some r) : AEnds E78 (finW Tryz.prog Tryz.f78.results) 0 [.code (Tryz.f78.body.getD .skip)] (startA Tryz.f78 [(.int .i64 a0), (rowI .i64 l1)] [] []) (.agg [(.int .i64 r.1), (rowI .i64 r.2)]) := by
  unfold zelligeref04_make1.f at h
  simp only [Tryz.f78, Option.getD_some, startA]
  rcases ite_some h with ⟨c1, h⟩ | ⟨c1, h⟩
  · obtain rfl := Option.some.inj h
    simp (maxSteps := 2000000) (disch := (first | omega | (simp only [List.length_append, List.length_map, List.length_cons, List.length_nil, List.length_set, List.length_replicate, List.length_take, List.size_toArray]; omega))) [E78, c1]
    try omega
  · obtain rfl := Option.some.inj h
    simp (maxSteps := 2000000) (disch := (first | omega | (simp only [List.length_append, List.length_map, List.length_cons, List.length_nil, List.length_set, List.length_replicate, List.length_take, List.size_toArray]; omega))) [E78, c1]
    try omega
theorem fit78 : Fits Tryz.prog E78.ref E78.dep Tryz.f78 = true := by kernel_rfl
theorem good78 : GoodV 78 := by
  intro xs r h
  simp only [SV] at h
  unfold SV78 at h
  split at h
  · obtain ⟨a0, h0, h⟩ := Option.bind_eq_some_iff.1 h
    obtain ⟨a1, h1, h⟩ := Option.bind_eq_some_iff.1 h
    obtain ⟨q, hq, rfl⟩ := Option.map_eq_some_iff.1 h
    obtain rfl := unN_eq h0
    obtain rfl := unI_eq h1
    exact okW_ends (mkE_ok all_nil all_nil) mixed Tryz.func78 rfl fit78 (n78_run 0 _ _  _ hq)
  · cases h
theorem goodR78 : GoodR 78 := fun _ _ _ _ _ _ h => by simp [SR] at h
end Go.Proofs.YtofklpmlgfbmlaaGreat.ZRat
namespace Go.Proofs.YtofklpmlgfbmlaaGreat.ZRat
open Go.RowKit Go.Proofs.YtofklpmlgfbmlaaGreat.Wd
open Go Go.Proofs.YtofklpmlgfbmlaaGreat.Ab Go.Proofs
set_option linter.unusedSimpArgs false
set_option linter.unusedVariables false
set_option maxHeartbeats 4000000
set_option maxRecDepth 10000
noncomputable def E69 : Env := mkE [] [68] [] []
theorem n69_run (k : Nat) (a0_0 : Bool) (l0_1 : List Int) (r : (Int × List Int)) (h : zelligeref04_Of.f k a0_0 l0_1 = some r) : AEnds E69 (finW Tryz.prog Tryz.f69.results) 0 [.code (Tryz.f69.body.getD .skip)] (startA Tryz.f69 [(.agg [(.bool a0_0), (rowI .u32 l0_1)])] [] []) (.agg [(.int .i64 r.1), (rowI .i64 r.2)]) := by
  unfold zelligeref04_Of.f at h
  simp only [Tryz.f69, Option.getD_some, startA]
  obtain ⟨t1, e2, h⟩ := Option.bind_eq_some_iff.1 h
  have p3 := pick_of (fun k r h => zelligeref03_Of.mono _  k r h) e2
  rcases ite_some h with ⟨c4, h⟩ | ⟨c4, h⟩
  · obtain rfl := Option.some.inj h
    simp (maxSteps := 2000000) (disch := (first | omega | (simp only [List.length_append, List.length_map, List.length_cons, List.length_nil, List.length_set, List.length_replicate, List.length_take, List.size_toArray]; omega))) [E69, p3, c4]
    try omega
  · rcases ite_some h with ⟨c5, h⟩ | ⟨c5, h⟩
    · obtain rfl := Option.some.inj h
      simp (maxSteps := 2000000) (disch := (first | omega | (simp only [List.length_append, List.length_map, List.length_cons, List.length_nil, List.length_set, List.length_replicate, List.length_take, List.size_toArray]; omega))) [E69, p3, c4, c5]
      try omega
    · obtain rfl := Option.some.inj h
      simp (maxSteps := 2000000) (disch := (first | omega | (simp only [List.length_append, List.length_map, List.length_cons, List.length_nil, List.length_set, List.length_replicate, List.length_take, List.size_toArray]; omega))) [E69, p3, c4, c5]
      try omega
theorem fit69 : Fits Tryz.prog E69.ref E69.dep Tryz.f69 = true := by kernel_rfl
theorem good69 : GoodV 69 := by
  intro xs r h
  simp only [SV] at h
  unfold SV69 at h
  split at h
  · obtain ⟨a0, h0, h⟩ := Option.bind_eq_some_iff.1 h
    obtain ⟨a1, h1, h⟩ := Option.bind_eq_some_iff.1 h
    obtain ⟨q, hq, rfl⟩ := Option.map_eq_some_iff.1 h
    obtain ⟨k, hk⟩ := of_pick hq
    obtain rfl := unB_eq h0
    obtain rfl := unI_eq h1
    exact okW_ends (mkE_ok (all_cons good68 all_nil) (all_cons goodR68 all_nil)) mixed Tryz.func69 rfl fit69 (n69_run k _ _  _ hk)
  · cases h
end Go.Proofs.YtofklpmlgfbmlaaGreat.ZRat
namespace Go.Proofs.YtofklpmlgfbmlaaGreat.ZRat
open Go.RowKit Go.Proofs.YtofklpmlgfbmlaaGreat.Wd
open Go Go.Proofs.YtofklpmlgfbmlaaGreat.Ab Go.Proofs
set_option linter.unusedSimpArgs false
set_option linter.unusedVariables false
set_option maxHeartbeats 4000000
set_option maxRecDepth 10000
noncomputable def E41 : Env := mkE [] [68] [] []
theorem n41_run (k : Nat) (a0 : Int) (r : (Int × List Int)) (h : zelligeref04_Long.f k a0 = some r) : AEnds E41 (finW Tryz.prog Tryz.f41.results) 0 [.code (Tryz.f41.body.getD .skip)] (startA Tryz.f41 [(.int .i64 a0)] [] []) (.agg [(.int .i64 r.1), (rowI .i64 r.2)]) := by
  unfold zelligeref04_Long.f at h
  simp only [Tryz.f41, Option.getD_some, startA]
  rcases ite_some h with ⟨c1, h⟩ | ⟨c1, h⟩
  · obtain rfl := Option.some.inj h
    simp (maxSteps := 2000000) (disch := (first | omega | (simp only [List.length_append, List.length_map, List.length_cons, List.length_nil, List.length_set, List.length_replicate, List.length_take, List.size_toArray]; omega))) [E41, c1]
    try omega
  · rcases ite_some h with ⟨c2, h⟩ | ⟨c2, h⟩
    · obtain ⟨t3, e4, h⟩ := Option.bind_eq_some_iff.1 h
      have p5 := pick_of (fun k r h => zelligeref03_Of.mono _  k r h) e4
      obtain rfl := Option.some.inj h
      simp (maxSteps := 2000000) (disch := (first | omega | (simp only [List.length_append, List.length_map, List.length_cons, List.length_nil, List.length_set, List.length_replicate, List.length_take, List.size_toArray]; omega))) [E41, c1, c2, p5]
      try omega
    · obtain ⟨t6, e7, h⟩ := Option.bind_eq_some_iff.1 h
      have p8 := pick_of (fun k r h => zelligeref03_Of.mono _  k r h) e7
      obtain rfl := Option.some.inj h
      simp (maxSteps := 2000000) (disch := (first | omega | (simp only [List.length_append, List.length_map, List.length_cons, List.length_nil, List.length_set, List.length_replicate, List.length_take, List.size_toArray]; omega))) [E41, c1, c2, p8]
      try omega
theorem fit41 : Fits Tryz.prog E41.ref E41.dep Tryz.f41 = true := by kernel_rfl
theorem good41 : GoodV 41 := by
  intro xs r h
  simp only [SV] at h
  unfold SV41 at h
  split at h
  · obtain ⟨a0, h0, h⟩ := Option.bind_eq_some_iff.1 h
    obtain ⟨q, hq, rfl⟩ := Option.map_eq_some_iff.1 h
    obtain ⟨k, hk⟩ := of_pick hq
    obtain rfl := unN_eq h0
    exact okW_ends (mkE_ok (all_cons good68 all_nil) (all_cons goodR68 all_nil)) mixed Tryz.func41 rfl fit41 (n41_run k _  _ hk)
  · cases h
end Go.Proofs.YtofklpmlgfbmlaaGreat.ZRat
namespace Go.Proofs.YtofklpmlgfbmlaaGreat.ZRat
open Go.RowKit Go.Proofs.YtofklpmlgfbmlaaGreat.Wd
open Go Go.Proofs.YtofklpmlgfbmlaaGreat.Ab Go.Proofs
set_option linter.unusedSimpArgs false
set_option linter.unusedVariables false
set_option maxHeartbeats 4000000
set_option maxRecDepth 10000
noncomputable def E72 : Env := mkE [] [78, 118, 119, 120] [] []
theorem n72_run (k : Nat) (a0_0 : Int) (l0_1 : List Int) (a1_0 : Int) (l1_1 : List Int) (r : (Int × List Int)) (h : zelligeref04_Add.f k a0_0 l0_1 a1_0 l1_1 = some r) : AEnds E72 (finW Tryz.prog Tryz.f72.results) 0 [.code (Tryz.f72.body.getD .skip)] (startA Tryz.f72 [(.agg [(.int .i64 a0_0), (rowI .i64 l0_1)]), (.agg [(.int .i64 a1_0), (rowI .i64 l1_1)])] [] []) (.agg [(.int .i64 r.1), (rowI .i64 r.2)]) := by
  unfold zelligeref04_Add.f at h
  simp only [Tryz.f72, Option.getD_some, startA]
  rcases ite_some h with ⟨c1, h⟩ | ⟨c1, h⟩
  · obtain rfl := Option.some.inj h
    simp (maxSteps := 2000000) (disch := (first | omega | (simp only [List.length_append, List.length_map, List.length_cons, List.length_nil, List.length_set, List.length_replicate, List.length_take, List.size_toArray]; omega))) [E72, c1]
    try omega
  · rcases ite_some h with ⟨c2, h⟩ | ⟨c2, h⟩
    · obtain rfl := Option.some.inj h
      simp (maxSteps := 2000000) (disch := (first | omega | (simp only [List.length_append, List.length_map, List.length_cons, List.length_nil, List.length_set, List.length_replicate, List.length_take, List.size_toArray]; omega))) [E72, c1, c2]
      try omega
    · rcases ite_some h with ⟨c3, h⟩ | ⟨c3, h⟩
      · obtain ⟨t4, e5, h⟩ := Option.bind_eq_some_iff.1 h
        have p6 := pick_of (fun k r h => zelligeref03_Add.mono _ _  k r h) e5
        obtain rfl := Option.some.inj h
        simp (maxSteps := 2000000) (disch := (first | omega | (simp only [List.length_append, List.length_map, List.length_cons, List.length_nil, List.length_set, List.length_replicate, List.length_take, List.size_toArray]; omega))) [E72, c1, c2, c3, p6]
        try omega
      · obtain ⟨t7, e8, h⟩ := Option.bind_eq_some_iff.1 h
        have p9 := pick_of (fun k r h => zelligeref03_Cmp.mono _ _  k r h) e8
        rcases ite_some h with ⟨c10, h⟩ | ⟨c10, h⟩
        · obtain ⟨t11, e12, h⟩ := Option.bind_eq_some_iff.1 h
          have p13 := pick_of (fun k r h => zelligeref03_Sub.mono _ _  k r h) e12
          obtain ⟨t14, e15, h⟩ := Option.bind_eq_some_iff.1 h
          obtain rfl := Option.some.inj h
          simp (maxSteps := 2000000) (disch := (first | omega | (simp only [List.length_append, List.length_map, List.length_cons, List.length_nil, List.length_set, List.length_replicate, List.length_take, List.size_toArray]; omega))) [E72, c1, c2, c3, p9, c10, p13, e15]
          try omega
        · obtain ⟨t16, e17, h⟩ := Option.bind_eq_some_iff.1 h
          have p18 := pick_of (fun k r h => zelligeref03_Sub.mono _ _  k r h) e17
          obtain ⟨t19, e20, h⟩ := Option.bind_eq_some_iff.1 h
          obtain rfl := Option.some.inj h
          simp (maxSteps := 2000000) (disch := (first | omega | (simp only [List.length_append, List.length_map, List.length_cons, List.length_nil, List.length_set, List.length_replicate, List.length_take, List.size_toArray]; omega))) [E72, c1, c2, c3, p9, c10, p18, e20]
          try omega
theorem fit72 : Fits Tryz.prog E72.ref E72.dep Tryz.f72 = true := by kernel_rfl
theorem good72 : GoodV 72 := by
  intro xs r h
  simp only [SV] at h
  unfold SV72 at h
  split at h
  · obtain ⟨a0, h0, h⟩ := Option.bind_eq_some_iff.1 h
    obtain ⟨a1, h1, h⟩ := Option.bind_eq_some_iff.1 h
    obtain ⟨a2, h2, h⟩ := Option.bind_eq_some_iff.1 h
    obtain ⟨a3, h3, h⟩ := Option.bind_eq_some_iff.1 h
    obtain ⟨q, hq, rfl⟩ := Option.map_eq_some_iff.1 h
    obtain ⟨k, hk⟩ := of_pick hq
    obtain rfl := unN_eq h0
    obtain rfl := unI_eq h1
    obtain rfl := unN_eq h2
    obtain rfl := unI_eq h3
    exact okW_ends (mkE_ok (all_cons good78 (all_cons good118 (all_cons good119 (all_cons good120 all_nil)))) (all_cons goodR78 (all_cons goodR118 (all_cons goodR119 (all_cons goodR120 all_nil))))) mixed Tryz.func72 rfl fit72 (n72_run k _ _ _ _  _ hk)
  · cases h
theorem goodR72 : GoodR 72 := fun _ _ _ _ _ _ h => by simp [SR] at h
end Go.Proofs.YtofklpmlgfbmlaaGreat.ZRat
namespace Go.Proofs.YtofklpmlgfbmlaaGreat.ZRat
open Go.RowKit Go.Proofs.YtofklpmlgfbmlaaGreat.Wd
open Go Go.Proofs.YtofklpmlgfbmlaaGreat.Ab Go.Proofs
set_option linter.unusedSimpArgs false
set_option linter.unusedVariables false
set_option maxHeartbeats 4000000
set_option maxRecDepth 10000
noncomputable def E126 : Env := mkE [] [] [] []
theorem n126_run (k : Nat) (a0_0 : Int) (l0_1 : List Int) (r : (Int × List Int)) (h : zelligeref04_Neg.f  a0_0 l0_1 = some r) : AEnds E126 (finW Tryz.prog Tryz.f126.results) 0 [.code (Tryz.f126.body.getD .skip)] (startA Tryz.f126 [(.agg [(.int .i64 a0_0), (rowI .i64 l0_1)])] [] []) (.agg [(.int .i64 r.1), (rowI .i64 r.2)]) := by
  unfold zelligeref04_Neg.f at h
  simp only [Tryz.f126, Option.getD_some, startA]
  obtain rfl := Option.some.inj h
  simp (maxSteps := 2000000) (disch := (first | omega | (simp only [List.length_append, List.length_map, List.length_cons, List.length_nil, List.length_set, List.length_replicate, List.length_take, List.size_toArray]; omega))) [E126]
  try omega
theorem fit126 : Fits Tryz.prog E126.ref E126.dep Tryz.f126 = true := by kernel_rfl
theorem good126 : GoodV 126 := by
  intro xs r h
  simp only [SV] at h
  unfold SV126 at h
  split at h
  · obtain ⟨a0, h0, h⟩ := Option.bind_eq_some_iff.1 h
    obtain ⟨a1, h1, h⟩ := Option.bind_eq_some_iff.1 h
    obtain ⟨q, hq, rfl⟩ := Option.map_eq_some_iff.1 h
    obtain rfl := unN_eq h0
    obtain rfl := unI_eq h1
    exact okW_ends (mkE_ok all_nil all_nil) mixed Tryz.func126 rfl fit126 (n126_run 0 _ _  _ hq)
  · cases h
theorem goodR126 : GoodR 126 := fun _ _ _ _ _ _ h => by simp [SR] at h
end Go.Proofs.YtofklpmlgfbmlaaGreat.ZRat
namespace Go.Proofs.YtofklpmlgfbmlaaGreat.ZRat
open Go.RowKit Go.Proofs.YtofklpmlgfbmlaaGreat.Wd
open Go Go.Proofs.YtofklpmlgfbmlaaGreat.Ab Go.Proofs
set_option linter.unusedSimpArgs false
set_option linter.unusedVariables false
set_option maxHeartbeats 4000000
set_option maxRecDepth 10000
noncomputable def E74 : Env := mkE [] [72, 126] [] []
theorem n74_run (k : Nat) (a0_0 : Int) (l0_1 : List Int) (a1_0 : Int) (l1_1 : List Int) (r : (Int × List Int)) (h : zelligeref04_Sub.f k a0_0 l0_1 a1_0 l1_1 = some r) : AEnds E74 (finW Tryz.prog Tryz.f74.results) 0 [.code (Tryz.f74.body.getD .skip)] (startA Tryz.f74 [(.agg [(.int .i64 a0_0), (rowI .i64 l0_1)]), (.agg [(.int .i64 a1_0), (rowI .i64 l1_1)])] [] []) (.agg [(.int .i64 r.1), (rowI .i64 r.2)]) := by
  unfold zelligeref04_Sub.f at h
  simp only [Tryz.f74, Option.getD_some, startA]
  obtain ⟨t1, e2, h⟩ := Option.bind_eq_some_iff.1 h
  obtain ⟨t3, e4, h⟩ := Option.bind_eq_some_iff.1 h
  have p5 := pick_of (fun k r h => zelligeref04_Add.mono _ _ _ _  k r h) e4
  obtain rfl := Option.some.inj h
  simp (maxSteps := 2000000) (disch := (first | omega | (simp only [List.length_append, List.length_map, List.length_cons, List.length_nil, List.length_set, List.length_replicate, List.length_take, List.size_toArray]; omega))) [E74, e2, p5]
  try omega
theorem fit74 : Fits Tryz.prog E74.ref E74.dep Tryz.f74 = true := by kernel_rfl
theorem good74 : GoodV 74 := by
  intro xs r h
  simp only [SV] at h
  unfold SV74 at h
  split at h
  · obtain ⟨a0, h0, h⟩ := Option.bind_eq_some_iff.1 h
    obtain ⟨a1, h1, h⟩ := Option.bind_eq_some_iff.1 h
    obtain ⟨a2, h2, h⟩ := Option.bind_eq_some_iff.1 h
    obtain ⟨a3, h3, h⟩ := Option.bind_eq_some_iff.1 h
    obtain ⟨q, hq, rfl⟩ := Option.map_eq_some_iff.1 h
    obtain ⟨k, hk⟩ := of_pick hq
    obtain rfl := unN_eq h0
    obtain rfl := unI_eq h1
    obtain rfl := unN_eq h2
    obtain rfl := unI_eq h3
    exact okW_ends (mkE_ok (all_cons good72 (all_cons good126 all_nil)) (all_cons goodR72 (all_cons goodR126 all_nil))) mixed Tryz.func74 rfl fit74 (n74_run k _ _ _ _  _ hk)
  · cases h
theorem goodR74 : GoodR 74 := fun _ _ _ _ _ _ h => by simp [SR] at h
end Go.Proofs.YtofklpmlgfbmlaaGreat.ZRat
namespace Go.Proofs.YtofklpmlgfbmlaaGreat.ZRat
open Go.RowKit Go.Proofs.YtofklpmlgfbmlaaGreat.Wd
open Go Go.Proofs.YtofklpmlgfbmlaaGreat.Ab Go.Proofs
set_option linter.unusedSimpArgs false
set_option linter.unusedVariables false
set_option maxHeartbeats 4000000
set_option maxRecDepth 10000
noncomputable def E35 : Env := mkE [] [78, 79] [] []
theorem n35_run (k : Nat) (a0_0 : Int) (l0_1 : List Int) (a1_0 : Int) (l1_1 : List Int) (r : (Int × List Int)) (h : zelligeref04_Mul.f k a0_0 l0_1 a1_0 l1_1 = some r) : AEnds E35 (finW Tryz.prog Tryz.f35.results) 0 [.code (Tryz.f35.body.getD .skip)] (startA Tryz.f35 [(.agg [(.int .i64 a0_0), (rowI .i64 l0_1)]), (.agg [(.int .i64 a1_0), (rowI .i64 l1_1)])] [] []) (.agg [(.int .i64 r.1), (rowI .i64 r.2)]) := by
  unfold zelligeref04_Mul.f at h
  simp only [Tryz.f35, Option.getD_some, startA]
  obtain ⟨t1, e2, h⟩ := Option.bind_eq_some_iff.1 h
  have p3 := pick_of (fun k r h => zelligeref03_Mul.mono _ _  k r h) e2
  obtain ⟨t4, e5, h⟩ := Option.bind_eq_some_iff.1 h
  obtain rfl := Option.some.inj h
  simp (maxSteps := 2000000) (disch := (first | omega | (simp only [List.length_append, List.length_map, List.length_cons, List.length_nil, List.length_set, List.length_replicate, List.length_take, List.size_toArray]; omega))) [E35, p3, e5]
  try omega
theorem fit35 : Fits Tryz.prog E35.ref E35.dep Tryz.f35 = true := by kernel_rfl
theorem good35 : GoodV 35 := by
  intro xs r h
  simp only [SV] at h
  unfold SV35 at h
  split at h
  · obtain ⟨a0, h0, h⟩ := Option.bind_eq_some_iff.1 h
    obtain ⟨a1, h1, h⟩ := Option.bind_eq_some_iff.1 h
    obtain ⟨a2, h2, h⟩ := Option.bind_eq_some_iff.1 h
    obtain ⟨a3, h3, h⟩ := Option.bind_eq_some_iff.1 h
    obtain ⟨q, hq, rfl⟩ := Option.map_eq_some_iff.1 h
    obtain ⟨k, hk⟩ := of_pick hq
    obtain rfl := unN_eq h0
    obtain rfl := unI_eq h1
    obtain rfl := unN_eq h2
    obtain rfl := unI_eq h3
    exact okW_ends (mkE_ok (all_cons good78 (all_cons good79 all_nil)) (all_cons goodR78 (all_cons goodR79 all_nil))) mixed Tryz.func35 rfl fit35 (n35_run k _ _ _ _  _ hk)
  · cases h
end Go.Proofs.YtofklpmlgfbmlaaGreat.ZRat
namespace Go.Proofs.YtofklpmlgfbmlaaGreat.ZRat
open Go.RowKit Go.Proofs.YtofklpmlgfbmlaaGreat.Wd
open Go Go.Proofs.YtofklpmlgfbmlaaGreat.Ab Go.Proofs
set_option linter.unusedSimpArgs false
set_option linter.unusedVariables false
set_option maxHeartbeats 4000000
set_option maxRecDepth 10000
noncomputable def E31 : Env := mkE [] [74] [] []
theorem n31_run (k : Nat) (a0_0 : Int) (l0_1 : List Int) (a1_0 : Int) (l1_1 : List Int) (r : (Int)) (h : zelligeref04_Cmp.f k a0_0 l0_1 a1_0 l1_1 = some r) : AEnds E31 (finW Tryz.prog Tryz.f31.results) 0 [.code (Tryz.f31.body.getD .skip)] (startA Tryz.f31 [(.agg [(.int .i64 a0_0), (rowI .i64 l0_1)]), (.agg [(.int .i64 a1_0), (rowI .i64 l1_1)])] [] []) (.int .i64 r) := by
  unfold zelligeref04_Cmp.f at h
  simp only [Tryz.f31, Option.getD_some, startA]
  obtain ⟨t1, e2, h⟩ := Option.bind_eq_some_iff.1 h
  have p3 := pick_of (fun k r h => zelligeref04_Sub.mono _ _ _ _  k r h) e2
  obtain rfl := Option.some.inj h
  simp (maxSteps := 2000000) (disch := (first | omega | (simp only [List.length_append, List.length_map, List.length_cons, List.length_nil, List.length_set, List.length_replicate, List.length_take, List.size_toArray]; omega))) [E31, p3]
  try omega
theorem fit31 : Fits Tryz.prog E31.ref E31.dep Tryz.f31 = true := by kernel_rfl
theorem good31 : GoodV 31 := by
  intro xs r h
  simp only [SV] at h
  unfold SV31 at h
  split at h
  · obtain ⟨a0, h0, h⟩ := Option.bind_eq_some_iff.1 h
    obtain ⟨a1, h1, h⟩ := Option.bind_eq_some_iff.1 h
    obtain ⟨a2, h2, h⟩ := Option.bind_eq_some_iff.1 h
    obtain ⟨a3, h3, h⟩ := Option.bind_eq_some_iff.1 h
    obtain ⟨q, hq, rfl⟩ := Option.map_eq_some_iff.1 h
    obtain ⟨k, hk⟩ := of_pick hq
    obtain rfl := unN_eq h0
    obtain rfl := unI_eq h1
    obtain rfl := unN_eq h2
    obtain rfl := unI_eq h3
    exact okW_ends (mkE_ok (all_cons good74 all_nil) (all_cons goodR74 all_nil)) mixed Tryz.func31 rfl fit31 (n31_run k _ _ _ _  _ hk)
  · cases h
end Go.Proofs.YtofklpmlgfbmlaaGreat.ZRat
/- Numbers told by abstract values, and what they are worth. -/
namespace Go.Proofs.YtofklpmlgfbmlaaGreat.ZRat
open Go.RowKit Go.Proofs.YtofklpmlgfbmlaaGreat.Wd
open Go Go.Proofs.YtofklpmlgfbmlaaGreat.Ab Go.Proofs Go.Proofs.YtofklpmlgfbmlaaGreat.Num Go.Proofs.YtofklpmlgfbmlaaGreat.ZRatP
set_option linter.unusedSimpArgs false
set_option linter.unusedVariables false
/-- A number's row; a whole number; a fraction; and the reference's. -/
def natA (n : Nat) : AV := rowI .u32 (NB 4294967296 n)
def intA (z : Int) : AV := .agg [.bool (decide (z < 0)), natA z.natAbs]
def ratA (q : Rat) : AV := .agg [.bool (decide (q.num < 0)), natA q.num.natAbs, natA q.den]
def digA (n : Nat) : AV := rowI .i64 (NB 65536 n)
def rintA (z : Int) : AV := .agg [.int .i64 z.sign, digA z.natAbs]
def rratA (n d : Int) : AV := .agg [.int .i64 n.sign, digA n.natAbs, .int .i64 d.sign, digA d.natAbs]
open Classical in
/-- What they are worth, of so many words. -/
noncomputable def natL (L : Nat) (l : List Int) : Option Nat := if WB 4294967296 l ∧ l.length ≤ L then some (VB 4294967296 l) else none
open Classical in
noncomputable def digL (L : Nat) (l : List Int) : Option Nat := if l = NB 65536 (VB 65536 l) ∧ l.length ≤ L then some (VB 65536 l) else none
noncomputable def natD (L : Nat) (x : AV) : Option Nat := (unI .u32 x).bind (natL L)
noncomputable def intC (L : Nat) (b x : AV) : Option Int := (unB b).bind fun b => (natD L x).map fun (n : Nat) => if b = true then -(n : Int) else (n : Int)
noncomputable def intD (L : Nat) : AV → Option Int
  | .agg [b, x] => intC L b x
  | _ => none
noncomputable def digD (L : Nat) (x : AV) : Option Nat := (unI .i64 x).bind (digL L)
open Classical in
noncomputable def rintC (L : Nat) (s x : AV) : Option Int := (unN .i64 s).bind fun s => (digD L x).bind fun n => if (s * (n : Int)).sign = s ∧ (s * (n : Int)).natAbs = n then some (s * n) else none
noncomputable def rintD (L : Nat) : AV → Option Int
  | .agg [s, x] => rintC L s x
  | _ => none
noncomputable def rratD (L : Nat) : AV → Option (Int × Int)
  | .agg [s, x, t, y] => (rintC L s x).bind fun n => (rintC L t y).map fun d => (n, d)
  | _ => none
theorem natL_of {L : Nat} {l : List Int} (h : WB 4294967296 l) (hl : l.length ≤ L) : natL L l = some (VB 4294967296 l) := by unfold natL; rw [if_pos ⟨h, hl⟩]
theorem natL_out {L : Nat} {l : List Int} {n : Nat} (h : natL L l = some n) : WB 4294967296 l ∧ l.length ≤ L ∧ n = VB 4294967296 l := by
  unfold natL at h
  split at h
  · rename_i hc; cases h; exact ⟨hc.1, hc.2, rfl⟩
  · cases h
theorem digL_of {L n : Nat} (hl : (NB 65536 n).length ≤ L) : digL L (NB 65536 n) = some n := by unfold digL; rw [VB_NB (by omega), if_pos ⟨rfl, hl⟩]
theorem digL_out {L : Nat} {l : List Int} {n : Nat} (h : digL L l = some n) : l = NB 65536 n ∧ l.length ≤ L := by
  unfold digL at h
  split at h
  · rename_i hc; cases h; exact hc
  · cases h
theorem natD_out {L : Nat} {x : AV} {n : Nat} (h : natD L x = some n) : ∃ l, x = rowI .u32 l ∧ unI .u32 x = some l ∧ WB 4294967296 l ∧ l.length ≤ L ∧ n = VB 4294967296 l := by
  obtain ⟨l, hl, hn⟩ := Option.bind_eq_some_iff.1 h
  obtain ⟨h1, h2, h3⟩ := natL_out hn
  exact ⟨l, unI_eq hl, hl, h1, h2, h3⟩
theorem intC_out {L : Nat} {b x : AV} {z : Int} (h : intC L b x = some z) : ∃ s l, b = .bool s ∧ x = rowI .u32 l ∧ unI .u32 x = some l ∧ WB 4294967296 l ∧ l.length ≤ L ∧ z = IVal s l := by
  obtain ⟨s, hs, h⟩ := Option.bind_eq_some_iff.1 h
  obtain ⟨n, hn, rfl⟩ := Option.map_eq_some_iff.1 h
  obtain ⟨l, h1, h2, h3, h4, rfl⟩ := natD_out hn
  exact ⟨s, l, unB_eq hs, h1, h2, h3, h4, rfl⟩
theorem intD_out {L : Nat} {x : AV} {z : Int} (h : intD L x = some z) : ∃ s l, x = .agg [.bool s, rowI .u32 l] ∧ WB 4294967296 l ∧ l.length ≤ L ∧ z = IVal s l := by
  unfold intD at h
  split at h
  · obtain ⟨s, l, rfl, rfl, _, h1, h2, h3⟩ := intC_out h; exact ⟨s, l, rfl, h1, h2, h3⟩
  · cases h
theorem digD_out {L : Nat} {x : AV} {n : Nat} (h : digD L x = some n) : x = digA n ∧ (NB 65536 n).length ≤ L := by
  obtain ⟨l, hl, hn⟩ := Option.bind_eq_some_iff.1 h
  obtain ⟨rfl, h2⟩ := digL_out hn
  exact ⟨unI_eq hl, h2⟩
theorem rintC_out {L : Nat} {s x : AV} {z : Int} (h : rintC L s x = some z) : s = .int .i64 z.sign ∧ x = digA z.natAbs ∧ (NB 65536 z.natAbs).length ≤ L := by
  obtain ⟨t, ht, h⟩ := Option.bind_eq_some_iff.1 h
  obtain ⟨n, hn, h⟩ := Option.bind_eq_some_iff.1 h
  split at h
  · rename_i hs
    cases h
    obtain ⟨rfl, h2⟩ := digD_out hn
    rw [unN_eq ht, hs.1, hs.2]
    exact ⟨rfl, rfl, h2⟩
  · cases h
theorem rintD_out {L : Nat} {x : AV} {z : Int} (h : rintD L x = some z) : x = rintA z ∧ (NB 65536 z.natAbs).length ≤ L := by
  unfold rintD at h
  split at h
  · obtain ⟨rfl, rfl, h1⟩ := rintC_out h; exact ⟨rfl, h1⟩
  · cases h
/-! For simp. -/
theorem natD_row {L n : Nat} {l : List Int} (hn : n = l.length) (h : WB 4294967296 l) (hl : l.length ≤ L) : natD L (.row n (l.map (.int .u32))) = some (VB 4294967296 l) := by
  unfold natD; rw [unI_row _ _ _ hn]; exact natL_of h hl
theorem natD_nil {L : Nat} : natD L (.row 0 []) = some 0 := natD_row (l := []) rfl (WB_nil _) (Nat.zero_le _)
theorem intC_row {L n : Nat} {b : Bool} {l : List Int} (hn : n = l.length) (h : WB 4294967296 l) (hl : l.length ≤ L) : intC L (.bool b) (.row n (l.map (.int .u32))) = some (IVal b l) := by
  unfold intC; rw [natD_row hn h hl]; rfl
theorem intC_nil {L : Nat} {b : Bool} : intC L (.bool b) (.row 0 []) = some 0 := (intC_row (l := []) rfl (WB_nil _) (Nat.zero_le _)).trans (by cases b <;> rfl)
theorem digD_row {L n m : Nat} (hn : m = (NB 65536 n).length) (hl : (NB 65536 n).length ≤ L) : digD L (.row m ((NB 65536 n).map (.int .i64))) = some n := by
  unfold digD; rw [unI_row _ _ _ hn]; exact digL_of hl
theorem digD_nil {L : Nat} : digD L (.row 0 []) = some 0 := by have := digD_row (L := L) (n := 0) (m := 0) (by rw [NB_zero]; rfl) (by rw [NB_zero]; exact Nat.zero_le _); rwa [NB_zero] at this
theorem rintC_row {L m n : Nat} {s : Int} (hn : m = (NB 65536 n).length) (hl : (NB 65536 n).length ≤ L) (h1 : (s * (n : Int)).sign = s) (h2 : (s * (n : Int)).natAbs = n) : rintC L (.int .i64 s) (.row m ((NB 65536 n).map (.int .i64))) = some (s * n) := by
  unfold rintC; rw [digD_row hn hl]; simp only [unN, if_true, Option.bind_some]; rw [if_pos ⟨h1, h2⟩]
theorem rintC_can {L m : Nat} {z : Int} (hn : m = (NB 65536 z.natAbs).length) (hl : (NB 65536 z.natAbs).length ≤ L) : rintC L (.int .i64 z.sign) (.row m ((NB 65536 z.natAbs).map (.int .i64))) = some z := by
  have e : z.sign * (z.natAbs : Int) = z := Int.sign_mul_natAbs z
  rw [rintC_row hn hl (by rw [e]) (by rw [e]), e]
theorem rintC_zero {L : Nat} : rintC L (.int .i64 0) (.row 0 []) = some 0 := by have := rintC_can (L := L) (z := 0) (m := 0) (by simp [NB_zero]) (by simp [NB_zero]); simpa [NB_zero] using this
theorem IVal_can (z : Int) : IVal (decide (z < 0)) (NB 4294967296 z.natAbs) = z := IC_val z
theorem IVal_nat (n : Nat) : IVal false (NB 4294967296 n) = (n : Int) := by unfold IVal; rw [VB_NB (by omega)]; rfl
theorem VBN (n : Nat) : VB 4294967296 (NB 4294967296 n) = n := VB_NB (by omega) n
theorem WBN (b n : Nat) : WB b (NB b n) = True := by simp [WB_NB]
theorem lenN0 (n : Nat) : ((NB 4294967296 n).length = 0) = (n = 0) := by rw [NB_len0 (by omega)]
theorem lenD0 (n : Nat) : ((NB 65536 n).length = 0) = (n = 0) := by rw [NB_len0 (by omega)]
end Go.Proofs.YtofklpmlgfbmlaaGreat.ZRat
/- Meanings told of numbers: nat, whole, and the references of both. -/
namespace Go.Proofs.YtofklpmlgfbmlaaGreat.ZRat
open Go.RowKit Go.Proofs.YtofklpmlgfbmlaaGreat.Wd
open Go Go.Proofs.YtofklpmlgfbmlaaGreat.Ab Go.Proofs Go.Proofs.YtofklpmlgfbmlaaGreat.Num Go.Proofs.YtofklpmlgfbmlaaGreat.ZRatP
set_option linter.unusedSimpArgs false
set_option linter.unusedVariables false
theorem ev_pick {α : Type} {g : Nat → Option α} {r : α} (mono : ∀ k r, g k = some r → g (k + 1) = some r) (h : Ev g r) : pick g = some r := let ⟨_, hk⟩ := h.rounds; pick_of mono hk
theorem unI_rowI (k : IntKind) (l : List Int) : unI k (rowI k l) = some l := unI_row k l _ rfl
theorem Sz_dig {z : Int} {L : Nat} (h : (NB 65536 z.natAbs).length ≤ L) : Sz z L := by
  have h1 := NB_lt_length (b := 65536) (by omega) z.natAbs
  refine Nat.lt_of_lt_of_le h1 (Nat.le_trans (Nat.pow_le_pow_right (by omega) h) (Nat.pow_le_pow_left (by omega) L))
/-- The calls of a walk: a function's number, and what it means. -/
def callS : List (FuncId × (List AV → Option AV)) → FuncId → List AV → Option AV
  | [], _, _ => none
  | (g, s) :: L, f, xs => if g = f then s xs else callS L f xs
noncomputable def mkS (L : List (FuncId × (List AV → Option AV))) (kt : List (Nat × List Nat)) (dt : List (Nat × List (List Nat × List Nat × Bool))) : Env := ⟨Tryz.prog, fun _ => false, fun f xs => callS L f (xs.map wk), fun _ _ _ _ => none, keepT kt, depT dt, fun _ _ => none⟩
def GoodS (p : FuncId × (List AV → Option AV)) : Prop := ∀ xs r, p.2 xs = some r → OkF Tryz.prog p.1 xs r
theorem alls_nil : ∀ p ∈ ([] : List (FuncId × (List AV → Option AV))), GoodS p := fun f h => by cases h
theorem alls_cons {a : FuncId × (List AV → Option AV)} {l : List (FuncId × (List AV → Option AV))} (h : GoodS a) (t : ∀ f ∈ l, GoodS f) : ∀ f ∈ a :: l, GoodS f := fun f hf => by
  rcases List.mem_cons.1 hf with e | e
  · exact e ▸ h
  · exact t f e
theorem callS_ok {L : List (FuncId × (List AV → Option AV))} (h : ∀ p ∈ L, GoodS p) {f : FuncId} {xs : List AV} {r : AV} (hc : callS L f xs = some r) : OkF Tryz.prog f xs r := by
  induction L with
  | nil => simp [callS] at hc
  | cons a L ih =>
    obtain ⟨g, s⟩ := a
    simp only [callS] at hc
    split at hc
    · rename_i e; subst e; exact h (g, s) (by simp) _ _ hc
    · exact ih (fun p hp => h p (by simp [hp])) hc
theorem mkS_ok {L : List (FuncId × (List AV → Option AV))} {kt : List (Nat × List Nat)} {dt : List (Nat × List (List Nat × List Nat × Bool))} (h : ∀ p ∈ L, GoodS p) : EnvOk (mkS L kt dt) Tryz.prog :=
  ⟨rfl, fun f xs r hc => OkF.wkA (callS_ok h hc), fun f xs h z v h' z' hr => by simp [mkS] at hr, fun _ _ _ h => by simp [mkS] at h⟩
noncomputable def NTrim : List AV → Option AV
  | [x0] => (natD 1000000 x0).bind fun a0 => some (natA a0)
  | _ => none
theorem sNTrim : GoodS (144, NTrim) := by
  intro xs r h
  simp only at h
  unfold NTrim at h
  split at h
  · obtain ⟨a0, h0, h⟩ := Option.bind_eq_some_iff.1 h
    cases h
    obtain ⟨l0, rfl, -, w0, b0, rfl⟩ := natD_out h0
    have e := Trim_f l0 w0 (by omega)
    refine .inl (good144 _ _ ?_)
    have p := ev_pick (fun k r h => nat_Trim.mono _ k r h) e
    simp only [SV, SV144, rintA, digA, natA, unI_rowI, unB, unN, if_true, Option.bind_some]
    rw [p]
    rfl
  · cases h
noncomputable def NGcd : List AV → Option AV
  | [x0, x1] => (natD 1000000 x0).bind fun a0 => (natD 1000000 x1).bind fun a1 => some (natA (Nat.gcd a0 a1))
  | _ => none
theorem sNGcd : GoodS (157, NGcd) := by
  intro xs r h
  simp only at h
  unfold NGcd at h
  split at h
  · obtain ⟨a0, h0, h⟩ := Option.bind_eq_some_iff.1 h
    obtain ⟨a1, h1, h⟩ := Option.bind_eq_some_iff.1 h
    cases h
    obtain ⟨l0, rfl, -, w0, b0, rfl⟩ := natD_out h0
    obtain ⟨l1, rfl, -, w1, b1, rfl⟩ := natD_out h1
    have e := Gcd_f l0 l1 w0 w1 (by omega) (by omega)
    refine .inl (good157 _ _ ?_)
    have p := ev_pick (fun k r h => nat_Gcd.mono _ _ k r h) e
    simp only [SV, SV157, rintA, digA, natA, unI_rowI, unB, unN, if_true, Option.bind_some]
    rw [p]
    rfl
  · cases h
noncomputable def NMul : List AV → Option AV
  | [x0, x1] => (natD 1000000 x0).bind fun a0 => (natD 1000000 x1).bind fun a1 => some (natA (a0 * a1))
  | _ => none
theorem sNMul : GoodS (92, NMul) := by
  intro xs r h
  simp only at h
  unfold NMul at h
  split at h
  · obtain ⟨a0, h0, h⟩ := Option.bind_eq_some_iff.1 h
    obtain ⟨a1, h1, h⟩ := Option.bind_eq_some_iff.1 h
    cases h
    obtain ⟨l0, rfl, -, w0, b0, rfl⟩ := natD_out h0
    obtain ⟨l1, rfl, -, w1, b1, rfl⟩ := natD_out h1
    have e := Mul_f l0 l1 w0 w1 (by omega)
    refine .inl (good92 _ _ ?_)
    have p := ev_pick (fun k r h => nat_Mul.mono _ _ k r h) e
    simp only [SV, SV92, rintA, digA, natA, unI_rowI, unB, unN, if_true, Option.bind_some]
    rw [p]
    rfl
  · cases h
noncomputable def NDivMod : List AV → Option AV
  | [x0, x1] => (natD 1000000 x0).bind fun a0 => (natD 1000000 x1).bind fun a1 => if a1 ≠ 0 then some (.tup [natA (a0 / a1), natA (a0 % a1), .int .i64 0]) else none
  | _ => none
theorem sNDivMod : GoodS (158, NDivMod) := by
  intro xs r h
  simp only at h
  unfold NDivMod at h
  split at h
  · obtain ⟨a0, h0, h⟩ := Option.bind_eq_some_iff.1 h
    obtain ⟨a1, h1, h⟩ := Option.bind_eq_some_iff.1 h
    rcases ite_some h with ⟨hc, h⟩ | ⟨hc, h⟩
    · cases h
      obtain ⟨l0, rfl, -, w0, b0, rfl⟩ := natD_out h0
      obtain ⟨l1, rfl, -, w1, b1, rfl⟩ := natD_out h1
      have e := DivMod_f l0 l1 w0 w1 (by omega) (by omega)
      refine .inl (good158 _ _ ?_)
      have p := ev_pick (fun k r h => nat_DivMod.mono _ _ k r h) e
      rw [if_neg hc] at p
      simp only [SV, SV158, rintA, digA, natA, unI_rowI, unB, unN, if_true, Option.bind_some]
      rw [p]
      rfl
    · cases h
  · cases h
noncomputable def WNorm : List AV → Option AV
  | [x0] => (intD 1000000 x0).bind fun a0 => some (intA a0)
  | _ => none
theorem sWNorm : GoodS (156, WNorm) := by
  intro xs r h
  simp only at h
  unfold WNorm at h
  split at h
  · obtain ⟨a0, h0, h⟩ := Option.bind_eq_some_iff.1 h
    cases h
    obtain ⟨s0, l0, rfl, w0, b0, rfl⟩ := intD_out h0
    have e := wNorm_f s0 l0 w0 (by omega)
    refine .inl (good156 _ _ ?_)
    have p := ev_pick (fun k r h => whole_Norm.mono _ _ k r h) e
    simp only [SV, SV156, rintA, digA, natA, unI_rowI, unB, unN, if_true, Option.bind_some]
    rw [p]
    rfl
  · cases h
noncomputable def WNeg : List AV → Option AV
  | [x0] => (intD 1000000 x0).bind fun a0 => some (intA (-a0))
  | _ => none
theorem sWNeg : GoodS (113, WNeg) := by
  intro xs r h
  simp only at h
  unfold WNeg at h
  split at h
  · obtain ⟨a0, h0, h⟩ := Option.bind_eq_some_iff.1 h
    cases h
    obtain ⟨s0, l0, rfl, w0, b0, rfl⟩ := intD_out h0
    have e := wNeg_f s0 l0 w0 (by omega)
    refine .inl (good113 _ _ ?_)
    have p := ev_pick (fun k r h => whole_Neg.mono _ _ k r h) e
    simp only [SV, SV113, rintA, digA, natA, unI_rowI, unB, unN, if_true, Option.bind_some]
    rw [p]
    rfl
  · cases h
noncomputable def WMul : List AV → Option AV
  | [x0, x1] => (intD 1000000 x0).bind fun a0 => (intD 1000000 x1).bind fun a1 => some (intA (a0 * a1))
  | _ => none
theorem sWMul : GoodS (47, WMul) := by
  intro xs r h
  simp only at h
  unfold WMul at h
  split at h
  · obtain ⟨a0, h0, h⟩ := Option.bind_eq_some_iff.1 h
    obtain ⟨a1, h1, h⟩ := Option.bind_eq_some_iff.1 h
    cases h
    obtain ⟨s0, l0, rfl, w0, b0, rfl⟩ := intD_out h0
    obtain ⟨s1, l1, rfl, w1, b1, rfl⟩ := intD_out h1
    have e := wMul_f s0 s1 l0 l1 w0 w1 (by omega) (by omega)
    refine .inl (good47 _ _ ?_)
    have p := ev_pick (fun k r h => whole_Mul.mono _ _ _ _ k r h) e
    simp only [SV, SV47, rintA, digA, natA, unI_rowI, unB, unN, if_true, Option.bind_some]
    rw [p]
    rfl
  · cases h
noncomputable def WSign : List AV → Option AV
  | [x0] => (intD 1000000 x0).bind fun a0 => some (.int .i64 a0.sign)
  | _ => none
theorem sWSign : GoodS (111, WSign) := by
  intro xs r h
  simp only at h
  unfold WSign at h
  split at h
  · obtain ⟨a0, h0, h⟩ := Option.bind_eq_some_iff.1 h
    cases h
    obtain ⟨s0, l0, rfl, w0, b0, rfl⟩ := intD_out h0
    have e := wSign_f s0 l0 w0 (by omega)
    refine .inl (good111 _ _ ?_)
    have p := ev_pick (fun k r h => whole_Sign.mono _ _ k r h) e
    simp only [SV, SV111, rintA, digA, natA, unI_rowI, unB, unN, if_true, Option.bind_some]
    rw [p]
    rfl
  · cases h
noncomputable def WOf : List AV → Option AV
  | [x0] => (unN .i64 x0).bind fun a0 => if -9223372036854775808 ≤ a0 ∧ a0 < 9223372036854775808 then some (intA a0) else none
  | _ => none
theorem sWOf : GoodS (48, WOf) := by
  intro xs r h
  simp only at h
  unfold WOf at h
  split at h
  · obtain ⟨a0, h0, h⟩ := Option.bind_eq_some_iff.1 h
    rcases ite_some h with ⟨hc, h⟩ | ⟨hc, h⟩
    · cases h
      obtain rfl := unN_eq h0
      have e := wOf_f a0 hc.1 hc.2
      refine .inl (good48 _ _ ?_)
      have p := ev_pick (fun k r h => whole_Of.mono _ k r h) e
      simp only [SV, SV48, rintA, digA, natA, unI_rowI, unB, unN, if_true, Option.bind_some]
      rw [p]
      rfl
    · cases h
  · cases h
noncomputable def DOf : List AV → Option AV
  | [x0] => (natD 1000000 x0).bind fun a0 => some (digA a0)
  | _ => none
theorem sDOf : GoodS (68, DOf) := by
  intro xs r h
  simp only at h
  unfold DOf at h
  split at h
  · obtain ⟨a0, h0, h⟩ := Option.bind_eq_some_iff.1 h
    cases h
    obtain ⟨l0, rfl, -, w0, b0, rfl⟩ := natD_out h0
    have e := ROf_f l0 w0 (by omega)
    refine .inl (good68 _ _ ?_)
    have p := ev_pick (fun k r h => zelligeref03_Of.mono _ k r h) e
    simp only [SV, SV68, rintA, digA, natA, unI_rowI, unB, unN, if_true, Option.bind_some]
    rw [p]
    rfl
  · cases h
noncomputable def DGcd : List AV → Option AV
  | [x0, x1] => (digD 2000000 x0).bind fun a0 => (digD 2000000 x1).bind fun a1 => some (digA (Nat.gcd a0 a1))
  | _ => none
theorem sDGcd : GoodS (109, DGcd) := by
  intro xs r h
  simp only at h
  unfold DGcd at h
  split at h
  · obtain ⟨a0, h0, h⟩ := Option.bind_eq_some_iff.1 h
    obtain ⟨a1, h1, h⟩ := Option.bind_eq_some_iff.1 h
    cases h
    obtain ⟨rfl, b0⟩ := digD_out h0
    obtain ⟨rfl, b1⟩ := digD_out h1
    have e := RGcd_f a0 a1 (by omega) (by omega)
    refine .inl (good109 _ _ ?_)
    have p := ev_pick (fun k r h => zelligeref03_Gcd.mono _ _ k r h) e
    simp only [SV, SV109, rintA, digA, natA, unI_rowI, unB, unN, if_true, Option.bind_some]
    rw [p]
    rfl
  · cases h
noncomputable def DDivMod : List AV → Option AV
  | [x0, x1] => (digD 2000000 x0).bind fun a0 => (digD 2000000 x1).bind fun a1 => if a1 ≠ 0 then some (.tup [digA (a0 / a1), digA (a0 % a1)]) else none
  | _ => none
theorem sDDivMod : GoodS (110, DDivMod) := by
  intro xs r h
  simp only at h
  unfold DDivMod at h
  split at h
  · obtain ⟨a0, h0, h⟩ := Option.bind_eq_some_iff.1 h
    obtain ⟨a1, h1, h⟩ := Option.bind_eq_some_iff.1 h
    rcases ite_some h with ⟨hc, h⟩ | ⟨hc, h⟩
    · cases h
      obtain ⟨rfl, b0⟩ := digD_out h0
      obtain ⟨rfl, b1⟩ := digD_out h1
      have e := RDivMod_f a0 a1 (by omega) (by omega) (by omega)
      refine .inl (good110 _ _ ?_)
      have p := ev_pick (fun k r h => zelligeref03_DivMod.mono _ _ k r h) e
      simp only [SV, SV110, rintA, digA, natA, unI_rowI, unB, unN, if_true, Option.bind_some]
      rw [p]
      rfl
    · cases h
  · cases h
noncomputable def ZOf : List AV → Option AV
  | [x0] => (intD 1000000 x0).bind fun a0 => some (rintA a0)
  | _ => none
theorem sZOf : GoodS (69, ZOf) := by
  intro xs r h
  simp only at h
  unfold ZOf at h
  split at h
  · obtain ⟨a0, h0, h⟩ := Option.bind_eq_some_iff.1 h
    cases h
    obtain ⟨s0, l0, rfl, w0, b0, rfl⟩ := intD_out h0
    have e := ROf4_f s0 l0 w0 (by omega)
    refine .inl (good69 _ _ ?_)
    have p := ev_pick (fun k r h => zelligeref04_Of.mono _ _ k r h) e
    simp only [SV, SV69, rintA, digA, natA, unI_rowI, unB, unN, if_true, Option.bind_some]
    rw [p]
    rfl
  · cases h
noncomputable def ZLong : List AV → Option AV
  | [x0] => (unN .i64 x0).bind fun a0 => if -9223372036854775808 ≤ a0 ∧ a0 < 9223372036854775808 then some (rintA a0) else none
  | _ => none
theorem sZLong : GoodS (41, ZLong) := by
  intro xs r h
  simp only at h
  unfold ZLong at h
  split at h
  · obtain ⟨a0, h0, h⟩ := Option.bind_eq_some_iff.1 h
    rcases ite_some h with ⟨hc, h⟩ | ⟨hc, h⟩
    · cases h
      obtain rfl := unN_eq h0
      have e := RLong_f a0 hc.1 hc.2
      refine .inl (good41 _ _ ?_)
      have p := ev_pick (fun k r h => zelligeref04_Long.mono _ k r h) e
      simp only [SV, SV41, rintA, digA, natA, unI_rowI, unB, unN, if_true, Option.bind_some]
      rw [p]
      rfl
    · cases h
  · cases h
noncomputable def ZAdd : List AV → Option AV
  | [x0, x1] => (rintD 2000000 x0).bind fun a0 => (rintD 2000000 x1).bind fun a1 => some (rintA (a0 + a1))
  | _ => none
theorem sZAdd : GoodS (72, ZAdd) := by
  intro xs r h
  simp only at h
  unfold ZAdd at h
  split at h
  · obtain ⟨a0, h0, h⟩ := Option.bind_eq_some_iff.1 h
    obtain ⟨a1, h1, h⟩ := Option.bind_eq_some_iff.1 h
    cases h
    obtain ⟨rfl, d0⟩ := rintD_out h0
    have b0 := Sz_dig d0
    obtain ⟨rfl, d1⟩ := rintD_out h1
    have b1 := Sz_dig d1
    have e := RAdd4_f a0 a1 _ b0 b1 (by omega)
    refine .inl (good72 _ _ ?_)
    have p := ev_pick (fun k r h => zelligeref04_Add.mono _ _ _ _ k r h) e
    simp only [RI] at p
    simp only [SV, SV72, rintA, digA, natA, unI_rowI, unB, unN, if_true, Option.bind_some]
    rw [p]
    rfl
  · cases h
noncomputable def ZSub : List AV → Option AV
  | [x0, x1] => (rintD 2000000 x0).bind fun a0 => (rintD 2000000 x1).bind fun a1 => some (rintA (a0 - a1))
  | _ => none
theorem sZSub : GoodS (74, ZSub) := by
  intro xs r h
  simp only at h
  unfold ZSub at h
  split at h
  · obtain ⟨a0, h0, h⟩ := Option.bind_eq_some_iff.1 h
    obtain ⟨a1, h1, h⟩ := Option.bind_eq_some_iff.1 h
    cases h
    obtain ⟨rfl, d0⟩ := rintD_out h0
    have b0 := Sz_dig d0
    obtain ⟨rfl, d1⟩ := rintD_out h1
    have b1 := Sz_dig d1
    have e := RSub4_f a0 a1 _ b0 b1 (by omega)
    refine .inl (good74 _ _ ?_)
    have p := ev_pick (fun k r h => zelligeref04_Sub.mono _ _ _ _ k r h) e
    simp only [RI] at p
    simp only [SV, SV74, rintA, digA, natA, unI_rowI, unB, unN, if_true, Option.bind_some]
    rw [p]
    rfl
  · cases h
noncomputable def ZMul : List AV → Option AV
  | [x0, x1] => (rintD 2000000 x0).bind fun a0 => (rintD 2000000 x1).bind fun a1 => some (rintA (a0 * a1))
  | _ => none
theorem sZMul : GoodS (35, ZMul) := by
  intro xs r h
  simp only at h
  unfold ZMul at h
  split at h
  · obtain ⟨a0, h0, h⟩ := Option.bind_eq_some_iff.1 h
    obtain ⟨a1, h1, h⟩ := Option.bind_eq_some_iff.1 h
    cases h
    obtain ⟨rfl, d0⟩ := rintD_out h0
    have b0 := Sz_dig d0
    obtain ⟨rfl, d1⟩ := rintD_out h1
    have b1 := Sz_dig d1
    have e := RMul4_f a0 a1 _ _ b0 b1 (by omega) (by omega)
    refine .inl (good35 _ _ ?_)
    have p := ev_pick (fun k r h => zelligeref04_Mul.mono _ _ _ _ k r h) e
    simp only [RI] at p
    simp only [SV, SV35, rintA, digA, natA, unI_rowI, unB, unN, if_true, Option.bind_some]
    rw [p]
    rfl
  · cases h
noncomputable def ZCmp : List AV → Option AV
  | [x0, x1] => (rintD 2000000 x0).bind fun a0 => (rintD 2000000 x1).bind fun a1 => some (.int .i64 (cmpZ a0 a1))
  | _ => none
theorem sZCmp : GoodS (31, ZCmp) := by
  intro xs r h
  simp only at h
  unfold ZCmp at h
  split at h
  · obtain ⟨a0, h0, h⟩ := Option.bind_eq_some_iff.1 h
    obtain ⟨a1, h1, h⟩ := Option.bind_eq_some_iff.1 h
    cases h
    obtain ⟨rfl, d0⟩ := rintD_out h0
    have b0 := Sz_dig d0
    obtain ⟨rfl, d1⟩ := rintD_out h1
    have b1 := Sz_dig d1
    have e := RCmp4_f a0 a1 _ b0 b1 (by omega)
    refine .inl (good31 _ _ ?_)
    have p := ev_pick (fun k r h => zelligeref04_Cmp.mono _ _ _ _ k r h) e
    simp only [RI] at p
    simp only [SV, SV31, rintA, digA, natA, unI_rowI, unB, unN, if_true, Option.bind_some]
    rw [p]
    rfl
  · cases h
noncomputable def ZNeg : List AV → Option AV
  | [x0] => (rintD 2000000 x0).bind fun a0 => some (rintA (-a0))
  | _ => none
theorem sZNeg : GoodS (126, ZNeg) := by
  intro xs r h
  simp only at h
  unfold ZNeg at h
  split at h
  · obtain ⟨a0, h0, h⟩ := Option.bind_eq_some_iff.1 h
    cases h
    obtain ⟨rfl, d0⟩ := rintD_out h0
    have b0 := Sz_dig d0
    have e := RNeg_f a0
    refine .inl (good126 _ _ ?_)
    have p := e
    simp only [RI] at p
    simp only [SV, SV126, rintA, digA, natA, unI_rowI, unB, unN, if_true, Option.bind_some]
    rw [p]
    rfl
  · cases h
attribute [simp] NTrim NGcd NMul NDivMod WNorm WNeg WMul WSign WOf DOf DGcd DDivMod ZOf ZLong ZAdd ZSub ZMul ZCmp ZNeg
attribute [simp] callS
end Go.Proofs.YtofklpmlgfbmlaaGreat.ZRat
/- Fractions' rows; lemmas for the walks of fractions. -/
namespace Go.Proofs.YtofklpmlgfbmlaaGreat.ZRat
open Go.RowKit Go.Proofs.YtofklpmlgfbmlaaGreat.Wd
open Go Go.Proofs.YtofklpmlgfbmlaaGreat.Ab Go.Proofs Go.Proofs.YtofklpmlgfbmlaaGreat.Num Go.Proofs.YtofklpmlgfbmlaaGreat.ZRatP
set_option linter.unusedSimpArgs false
set_option linter.unusedVariables false
theorem NB1 : NB 4294967296 1 = [1] := by rw [NB_pos (by omega) (by omega)]; simp [NB_zero]
theorem ratA_zero : ratA 0 = .agg [.bool false, .row 0 [], .row 1 [.int .u32 1]] := by
  unfold ratA natA
  simp [NB_zero, NB1]
theorem ratA_mk (z : Int) (d : Nat) (hd : d ≠ 0) : ratA (mkRat z d) = .agg [.bool (decide (z < 0)), natA (z.natAbs / Nat.gcd z.natAbs d), natA (d / Nat.gcd z.natAbs d)] := by
  unfold ratA
  rw [Rat.num_mkRat, Rat.den_mkRat, if_neg hd, if_neg hd, Nat.gcd_comm d]
  have hg : 0 < Nat.gcd z.natAbs d := Nat.gcd_pos_of_pos_right _ (by omega)
  have hv : ((Nat.gcd z.natAbs d : Nat) : Int) ∣ z := Int.ofNat_dvd_left.2 (Nat.gcd_dvd_left _ _)
  generalize Nat.gcd z.natAbs d = g at *
  obtain ⟨c, rfl⟩ := hv
  have e1 : ((g : Int) * c) / (g : Int) = c := Int.mul_ediv_cancel_left _ (by omega)
  have e2 : ((g : Int) * c).natAbs / g = c.natAbs := by rw [Int.natAbs_mul, Int.natAbs_natCast, Nat.mul_div_cancel_left _ hg]
  have e3 : decide ((g : Int) * c < 0) = decide (c < 0) := by
    by_cases hc : c < 0
    · rw [decide_eq_true hc, decide_eq_true (Int.mul_neg_of_pos_of_neg (by omega) hc)]
    · rw [decide_eq_false hc, decide_eq_false (by have := Int.mul_nonneg (show (0 : Int) ≤ g by omega) (show 0 ≤ c by omega); omega)]
  rw [e1, e2, e3]
theorem lenB0 (n : Nat) : (((NB 4294967296 n).length : Int) == 0) = decide (n = 0) := by
  have := NB_len0 (b := 4294967296) (by omega) n
  by_cases h : n = 0
  · rw [decide_eq_true h]; simp [this.2 h]
  · rw [decide_eq_false h]; simp [this, h]
theorem lenD0' (n : Nat) : (((NB 65536 n).length : Int) == 0) = decide (n = 0) := by
  have := NB_len0 (b := 65536) (by omega) n
  by_cases h : n = 0
  · rw [decide_eq_true h]; simp [this.2 h]
  · rw [decide_eq_false h]; simp [this, h]
section
variable {L : List (FuncId × (List AV → Option AV))} {kt : List (Nat × List Nat)} {dt : List (Nat × List (List Nat × List Nat × Bool))}
theorem mkS_P : (mkS L kt dt).P = Tryz.prog := rfl
theorem mkS_ref {f : FuncId} : (mkS L kt dt).ref f = false := rfl
theorem mkS_call {f : FuncId} {xs : List AV} : (mkS L kt dt).call f xs = callS L f (xs.map wk) := rfl
theorem mkS_keep {i : Nat} : (mkS L kt dt).keep i = keepT kt i := rfl
theorem mkS_dep {i : Nat} : (mkS L kt dt).dep i = depT dt i := rfl
end
theorem VB0 : VB 4294967296 [] = 0 := rfl
theorem sign_beq (z : Int) : (z.sign == 0) = decide (z = 0) := by
  by_cases h : z = 0
  · subst h; rfl
  · rw [decide_eq_false h]; simp [Int.sign_eq_zero_iff_zero, h]
theorem litD {L : Nat} {x : Int} (h0 : 0 ≤ x) (h1 : x < 4294967296) (hL : 1 ≤ L) : natD L (.row 1 [.int .u32 x]) = some x.toNat := by
  have := natD_row (L := L) (l := [x]) (n := 1) rfl (WB_cons.2 ⟨⟨h0, h1⟩, WB_nil _⟩) hL
  simpa [VB] using this
theorem litC {L : Nat} {b : Bool} {x : Int} (h0 : 0 ≤ x) (h1 : x < 4294967296) (hL : 1 ≤ L) : intC L (.bool b) (.row 1 [.int .u32 x]) = some (if b = true then -x else x) := by
  have := intC_row (L := L) (l := [x]) (n := 1) (b := b) rfl (WB_cons.2 ⟨⟨h0, h1⟩, WB_nil _⟩) hL
  simp only [List.map_cons, List.map_nil] at this
  rw [this]
  unfold IVal
  simp only [VB]
  congr 1
  split <;> omega
noncomputable def ratP (L : Nat) : AV → Option (Int × Nat)
  | .agg [b, x, y] => (intC L b x).bind fun n => (natD L y).map fun d => (n, d)
  | _ => none
theorem ratP_out {L : Nat} {x : AV} {p : Int × Nat} (h : ratP L x = some p) : ∃ s l m, x = .agg [.bool s, rowI .u32 l, rowI .u32 m] ∧ WB 4294967296 l ∧ l.length ≤ L ∧ WB 4294967296 m ∧ m.length ≤ L ∧ p = (IVal s l, VB 4294967296 m) := by
  unfold ratP at h
  split at h
  · obtain ⟨n, hn, h⟩ := Option.bind_eq_some_iff.1 h
    obtain ⟨d, hd, rfl⟩ := Option.map_eq_some_iff.1 h
    obtain ⟨s, l, rfl, rfl, _, h1, h2, rfl⟩ := intC_out hn
    obtain ⟨m, rfl, _, h3, h4, rfl⟩ := natD_out hd
    exact ⟨s, l, m, rfl, h1, h2, h3, h4, rfl⟩
  · cases h
theorem rratD_out {L : Nat} {x : AV} {p : Int × Int} (h : rratD L x = some p) : x = rratA p.1 p.2 ∧ (NB 65536 p.1.natAbs).length ≤ L ∧ (NB 65536 p.2.natAbs).length ≤ L := by
  unfold rratD at h
  split at h
  · obtain ⟨n, hn, h⟩ := Option.bind_eq_some_iff.1 h
    obtain ⟨d, hd, rfl⟩ := Option.map_eq_some_iff.1 h
    obtain ⟨rfl, rfl, h1⟩ := rintC_out hn
    obtain ⟨rfl, rfl, h2⟩ := rintC_out hd
    exact ⟨rfl, h1, h2⟩
  · cases h
theorem nb_le {n m L : Nat} [h : SzN n m] (hm : m ≤ L) : (NB 4294967296 n).length ≤ L := Nat.le_trans (NB_length_le (by omega) n m h.lt) hm
theorem nb16_le {n m L : Nat} [h : SzN n m] (hm : 2 * m ≤ L) : (NB 65536 n).length ≤ L := Nat.le_trans (len16s n m h.lt).1 hm
theorem dig_half {n L : Nat} (h : (NB 65536 n).length ≤ L) : n < 4294967296 ^ ((L + 1) / 2) := by
  have h1 := NB_lt_length (b := 65536) (by omega) n
  have h2 : 65536 ^ (NB 65536 n).length ≤ 65536 ^ (2 * ((L + 1) / 2)) := Nat.pow_le_pow_right (by omega) (by omega)
  rw [pow_16] at h2
  exact Nat.lt_of_lt_of_le h1 h2
theorem SzI.dig {z : Int} {L : Nat} (h : (NB 65536 z.natAbs).length ≤ L) : SzI z ((L + 1) / 2) := ⟨dig_half h⟩
theorem SzN.dig {n : Nat} {L : Nat} (h : (NB 65536 n).length ≤ L) : SzN n ((L + 1) / 2) := ⟨dig_half h⟩
theorem SzI.rng {z : Int} (h : -9223372036854775808 ≤ z ∧ z < 9223372036854775808) : SzI z 2 := ⟨Sz_long h.1 (by omega)⟩
theorem mkdiv (p q : Rat) (h : q ≠ 0) : mkRat (if q.num < 0 then -(p.num * (q.den : Int)) else p.num * (q.den : Int)) (p.den * q.num.natAbs) = p / q := by
  have h0 : ¬ q.num = 0 := by rwa [Rat.num_eq_zero]
  rw [Rat.div_def, Rat.mul_def' p, Rat.num_inv, Rat.den_inv]
  by_cases hn : q.num < 0
  · rw [if_pos hn, if_neg h0, Int.sign_eq_neg_one_of_neg hn, Int.neg_mul, Int.one_mul, Int.mul_neg]
  · rw [if_neg hn, if_neg h0, Int.sign_eq_one_of_pos (by omega), Int.one_mul]
theorem mkquo (z w : Int) (h : w ≠ 0) : mkRat (if w < 0 then -z else z) w.natAbs = (z : Rat) / (w : Rat) := by
  rw [← Rat.divInt_eq_div]
  rcases Int.lt_trichotomy w 0 with hw | hw | hw
  · rw [if_pos hw, ← Rat.neg_divInt_neg, ← Rat.divInt_ofNat]
    congr 1; omega
  · exact absurd hw h
  · rw [if_neg (by omega), ← Rat.divInt_ofNat]
    congr 1; omega
theorem den0 (q : Rat) : (q.den = 0) = False := by simp [q.den_nz]
def showP (n : Int) (d : Nat) : ByteArray := if d = 1 then showZ n else (showZ n ++ (⟨#[47]⟩ : ByteArray)) ++ showS d
theorem showS_le {n j : Nat} (h : SzN n j) : (showS n).size ≤ 10 * (j + 1) := showS_size' n (j + 1) (h.up (by omega)) (by omega)
theorem showZ_le {z : Int} {j : Nat} (h : SzI z j) : (showZ z).size ≤ 10 * (j + 1) + 1 := by
  have h1 := showS_le (n := z.natAbs) (j := j) ⟨h.lt⟩
  unfold showZ
  split
  · rw [ByteArray.size_append]
    have : (ByteArray.mk #[45]).size = 1 := rfl
    omega
  · omega
theorem lowest_num (n : Int) (d : Nat) (hd : d ≠ 0) : (mkRat n d).num.sign = n.sign ∧ (mkRat n d).num.natAbs = n.natAbs / Nat.gcd n.natAbs d ∧ (mkRat n d).den = d / Nat.gcd n.natAbs d := by
  rw [Rat.num_mkRat, Rat.den_mkRat, if_neg hd, if_neg hd, Nat.gcd_comm d]
  have hg : 0 < Nat.gcd n.natAbs d := Nat.gcd_pos_of_pos_right _ (by omega)
  have hv : ((Nat.gcd n.natAbs d : Nat) : Int) ∣ n := Int.ofNat_dvd_left.2 (Nat.gcd_dvd_left _ _)
  generalize Nat.gcd n.natAbs d = g at *
  obtain ⟨c, rfl⟩ := hv
  have e1 : ((g : Int) * c) / (g : Int) = c := Int.mul_ediv_cancel_left _ (by omega)
  have e2 : ((g : Int) * c).natAbs / g = c.natAbs := by rw [Int.natAbs_mul, Int.natAbs_natCast, Nat.mul_div_cancel_left _ hg]
  rw [e1, e2, Int.sign_mul, Int.sign_eq_one_of_pos (by omega : (0 : Int) < g), Int.one_mul]
  exact ⟨rfl, rfl, rfl⟩
theorem sign_lt (z : Int) : (z.sign < 0) = (z < 0) := by
  rcases Int.lt_trichotomy z 0 with h | h | h
  · simp [Int.sign_eq_neg_one_of_neg h, h]
  · subst h; rfl
  · simp [Int.sign_eq_one_of_pos h]; omega
theorem IVal_false (l : List Int) : IVal false l = ((VB 4294967296 l : Nat) : Int) := rfl
theorem IVal_neg (z : Int) : IVal (decide (0 < z)) (NB 4294967296 z.natAbs) = -z := by
  have := IVal_can (-z)
  rw [Int.natAbs_neg] at this
  rwa [show decide (-z < 0) = decide (0 < z) from by congr 1; apply propext; omega] at this
theorem IVal_lt {s : Bool} {l : List Int} (h : IVal s l < 0) : s = true := by
  cases s
  · rw [IVal_false] at h; omega
  · rfl
theorem IVal_ge {s : Bool} {l : List Int} (h : ¬ IVal s l < 0) (h0 : ¬ IVal s l = 0) : s = false := by
  cases s
  · rfl
  · unfold IVal at h h0; simp only [if_true] at h h0; omega
theorem rintC_pos {L m n : Nat} (hn : m = (NB 65536 n).length) (hl : (NB 65536 n).length ≤ L) (h0 : 0 < n) : rintC L (.int .i64 1) (.row m ((NB 65536 n).map (.int .i64))) = some (n : Int) := by
  have h1 : ((n : Nat) : Int).sign = 1 := Int.sign_eq_one_of_pos (by omega)
  have := rintC_can (L := L) (z := (n : Int)) (m := m) (by simpa using hn) (by simpa using hl)
  rwa [h1, Int.natAbs_natCast] at this
theorem sgn2 : Int.sign 2 = 1 := rfl
theorem sgn3 : Int.sign 3 = 1 := rfl
theorem sgn4 : Int.sign 4 = 1 := rfl
theorem sgn16 : Int.sign 16 = 1 := rfl
def rn (z : Int) (d : Nat) : Int := if d = 0 then 0 else z
def rD (d : Nat) : Int := if d = 0 then 1 else d
def floorQ (p : Rat) : Int := p.num.fdiv p.den
def roundQ (p : Rat) : Int := (p.num + p.num + p.den).fdiv ((p.den + p.den : Nat) : Int)
instance {p : Rat} {i : Nat} [SzQ p i] : SzI (floorQ p) (i + 1) := by
  have : SzI (p.num.fdiv p.den) (i + 1) := inferInstance
  exact this
instance {p : Rat} {i : Nat} [SzQ p i] : SzI (roundQ p) (i + i + 1 + i + 1 + 1) := by
  have : SzI ((p.num + p.num + p.den).fdiv ((p.den + p.den : Nat) : Int)) (i + i + 1 + i + 1 + 1) := inferInstance
  exact this
instance {z : Int} {d i : Nat} [SzI z i] : SzI (rn z d) i := by
  have h : SzI (if d = 0 then (0 : Int) else z) (0 + i) := inferInstance
  rw [Nat.zero_add] at h
  exact h
instance {d j : Nat} [SzN d j] : SzI (rD d) (1 + j) := by
  have h : SzI (if d = 0 then (1 : Int) else (d : Int)) (1 + j) := inferInstance
  exact h
def cut (n : Nat) (l : List Int) : List Int := l.take n
attribute [simp] Call.operands sgn2 sgn3 sgn4 sgn16 rintC_pos litD litC IVal_neg IVal_false NB_zero den0 NB1 ratP mkS_P mkS_ref mkS_call mkS_keep mkS_dep natA intA ratA digA rintA rratA intD rintD rratD natD_row natD_nil intC_row intC_nil digD_row digD_nil rintC_can rintC_zero IVal_can IVal_nat VBN WBN NBlen NBlen16 lenB0 lenD0' lenN0 lenD0 sign_beq VB0
end Go.Proofs.YtofklpmlgfbmlaaGreat.ZRat
