/- Walks by the abstract run: the references, whole numbers; what they mean. -/
import Derived.Test.YthkiklpcglogpaaC2
import Derived.Test.YthkiklpcglogpaaC3
import Derived.Test.YthkiklpcglogpaaC7
set_option linter.unusedVariables false
set_option linter.unusedSimpArgs false
namespace Go.Proofs.Ythkiklpcglogpaa.ZRat
open Go.RowKit Go.Proofs.Ythkiklpcglogpaa.Wd
open Go Go.Proofs.Ythkiklpcglogpaa.Ab Go.Proofs
set_option linter.unusedSimpArgs false
set_option linter.unusedVariables false
set_option maxHeartbeats 4000000
set_option maxRecDepth 10000
noncomputable def E33 : Env := mkE [] [] [(2, [0, 3])] []
theorem n33_ls (r : (List Int)) (k : Nat) : (∀ (x0 : List Int) (x3 : Int), zelligeref03_Trim.l0 k x0 x3 = some r → AEnds E33 (finW Try.prog Try.f33.results) 0 (atLoop Try.f33 2) ⟨fr 21 [(0, (rowI .i64 x0)), (3, (.int .i64 x3))], [], []⟩ (rowI .i64 r)) := by
  induction k using Nat.strongRecOn with
  | _ k ih =>
  intro x0 x3 h
  cases k with
  | zero => simp [zelligeref03_Trim.l0] at h
  | succ k1 =>
  simp only [zelligeref03_Trim.l0] at h
  simp only [Try.f33, atLoop, seek, firstR, reduceIte, Option.getD_some, Nat.reduceEqDiff]
  rcases ite_some h with ⟨c2, h⟩ | ⟨c2, h⟩
  · rcases ite_some h with ⟨c3, h⟩ | ⟨c3, h⟩
    · rcases ite_some h with ⟨c4, h⟩ | ⟨c4, h⟩
      · rcases ite_some h with ⟨c5, h⟩ | ⟨c5, h⟩
        · simp (maxSteps := 2000000) (disch := (first | omega | (simp only [List.length_append, List.length_map, List.length_cons, List.length_nil, List.length_set, List.length_replicate, List.length_take, List.size_toArray]; omega))) [E33, c2, c3, c4, c5]
          refine AEnds.againS ((ih k1 (by omega)) _ _  h) ?_
          simp only [E33, firstR, mk_keep, keepT, List.find?, Nat.reduceBEq, Option.map_some, Option.getD_some]
          simp (maxSteps := 2000000) (disch := (first | omega | (simp only [List.length_append, List.length_map, List.length_cons, List.length_nil, List.length_set, List.length_replicate, List.length_take, List.size_toArray]; omega))) [E33, c2, c3, c4, c5]
          try omega
        · rcases ite_some h with ⟨c6, h⟩ | ⟨c6, h⟩
          · rcases ite_some h with ⟨c7, h⟩ | ⟨c7, h⟩
            · obtain rfl := Option.some.inj h
              simp (maxSteps := 2000000) (disch := (first | omega | (simp only [List.length_append, List.length_map, List.length_cons, List.length_nil, List.length_set, List.length_replicate, List.length_take, List.size_toArray]; omega))) [E33, c2, c3, c4, c5, c6, c7]
              try omega
            · cases h
          · cases h
      · cases h
    · cases h
  · rcases ite_some h with ⟨c8, h⟩ | ⟨c8, h⟩
    · rcases ite_some h with ⟨c9, h⟩ | ⟨c9, h⟩
      · obtain rfl := Option.some.inj h
        simp (maxSteps := 2000000) (disch := (first | omega | (simp only [List.length_append, List.length_map, List.length_cons, List.length_nil, List.length_set, List.length_replicate, List.length_take, List.size_toArray]; omega))) [E33, c2, c8, c9]
        try omega
      · cases h
    · cases h
theorem n33_run (k : Nat) (l0 : List Int) (r : (List Int)) (h : zelligeref03_Trim.f k l0 = some r) : AEnds E33 (finW Try.prog Try.f33.results) 0 [.code (Try.f33.body.getD .skip)] (startA Try.f33 [(rowI .i64 l0)] [] []) (rowI .i64 r) := by
  unfold zelligeref03_Trim.f at h
  simp only [Try.f33, Option.getD_some, startA]
  simp (maxSteps := 2000000) (disch := (first | omega | (simp only [List.length_append, List.length_map, List.length_cons, List.length_nil, List.length_set, List.length_replicate, List.length_take, List.size_toArray]; omega))) [E33]
  refine AEnds.loopS ((n33_ls _ _) _ _  h) ?_
  simp only [E33, firstR, mk_keep, keepT, List.find?, Nat.reduceBEq, Option.map_some, Option.getD_some]
  simp (maxSteps := 2000000) (disch := (first | omega | (simp only [List.length_append, List.length_map, List.length_cons, List.length_nil, List.length_set, List.length_replicate, List.length_take, List.size_toArray]; omega))) [E33]
  try omega
theorem fit33 : Fits Try.prog E33.ref E33.dep Try.f33 = true := by kernel_rfl
theorem good33 : GoodV 33 := by
  intro xs r h
  simp only [SV] at h
  unfold SV33 at h
  split at h
  · obtain ⟨a0, h0, h⟩ := Option.bind_eq_some_iff.1 h
    obtain ⟨q, hq, rfl⟩ := Option.map_eq_some_iff.1 h
    obtain ⟨k, hk⟩ := of_pick hq
    obtain rfl := unI_eq h0
    exact okW_ends (mkE_ok all_nil all_nil) mixed Try.func33 rfl fit33 (n33_run k _  _ hk)
  · cases h
theorem goodR33 : GoodR 33 := fun _ _ _ _ _ _ h => by simp [SR] at h
end Go.Proofs.Ythkiklpcglogpaa.ZRat
namespace Go.Proofs.Ythkiklpcglogpaa.ZRat
open Go.RowKit Go.Proofs.Ythkiklpcglogpaa.Wd
open Go Go.Proofs.Ythkiklpcglogpaa.Ab Go.Proofs
set_option linter.unusedSimpArgs false
set_option linter.unusedVariables false
set_option maxHeartbeats 4000000
set_option maxRecDepth 10000
noncomputable def E25 : Env := mkE [] [33] [(3, [0, 3, 4])] [(5, [([], [], false), ([], [], false), ([], [], false), ([], [], false), ([], [], false), ([], [], false), ([], [], false), ([], [], false), ([], [], false), ([], [], false), ([], [], false), ([], [], false), ([], [], false), ([], [], false), ([0], [], false), ([], [], false)])]
theorem n25_ls (r : (List Int)) (k : Nat) : (∀ (x0 : List Int) (x3 : List Int) (x4 : Int), zelligeref03_Of.l0 k x0 x3 x4 = some r → AEnds E25 (finW Try.prog Try.f25.results) 0 (atLoop Try.f25 3) ⟨fr 29 [(0, (rowI .u32 x0)), (3, .own 0 0 x3.length 1), (4, (.int .i64 x4))], [.arr ((x3).map (.int .i64))], [false]⟩ (rowI .i64 r)) := by
  induction k using Nat.strongRecOn with
  | _ k ih =>
  intro x0 x3 x4 h
  cases k with
  | zero => simp [zelligeref03_Of.l0] at h
  | succ k1 =>
  simp only [zelligeref03_Of.l0] at h
  simp only [Try.f25, atLoop, seek, firstR, reduceIte, Option.getD_some, Nat.reduceEqDiff]
  rcases ite_some h with ⟨c2, h⟩ | ⟨c2, h⟩
  · rcases ite_some h with ⟨c3, h⟩ | ⟨c3, h⟩
    · obtain ⟨t4, e5, h⟩ := Option.bind_eq_some_iff.1 h
      obtain rfl := Option.some.inj e5
      rcases ite_some h with ⟨c6, h⟩ | ⟨c6, h⟩
      · try simp only [List.length_cons, List.length_nil, Nat.zero_add, Nat.reduceAdd] at c6
        simp (maxSteps := 2000000) (disch := (first | omega | (simp only [List.length_append, List.length_map, List.length_cons, List.length_nil, List.length_set, List.length_replicate, List.length_take, List.size_toArray]; omega))) [E25, c2, c3, c6]
        refine AEnds.againS ((ih k1 (by omega)) _ _ _  h) ?_
        simp only [E25, firstR, mk_keep, keepT, List.find?, Nat.reduceBEq, Option.map_some, Option.getD_some]
        simp (maxSteps := 2000000) (disch := (first | omega | (simp only [List.length_append, List.length_map, List.length_cons, List.length_nil, List.length_set, List.length_replicate, List.length_take, List.size_toArray]; omega))) [E25, c2, c3, c6]
        try omega
      · try simp only [List.length_cons, List.length_nil, Nat.zero_add, Nat.reduceAdd] at c6
        cases h
    · cases h
  · obtain ⟨t7, e8, h⟩ := Option.bind_eq_some_iff.1 h
    have p9 := pick_of (fun k r h => zelligeref03_Trim.mono _  k r h) e8
    obtain rfl := Option.some.inj h
    simp (maxSteps := 2000000) (disch := (first | omega | (simp only [List.length_append, List.length_map, List.length_cons, List.length_nil, List.length_set, List.length_replicate, List.length_take, List.size_toArray]; omega))) [E25, c2, p9]
    try omega
theorem n25_run (k : Nat) (l0 : List Int) (r : (List Int)) (h : zelligeref03_Of.f k l0 = some r) : AEnds E25 (finW Try.prog Try.f25.results) 0 [.code (Try.f25.body.getD .skip)] (startA Try.f25 [(rowI .u32 l0)] [] []) (rowI .i64 r) := by
  unfold zelligeref03_Of.f at h
  simp only [Try.f25, Option.getD_some, startA]
  simp (maxSteps := 2000000) (disch := (first | omega | (simp only [List.length_append, List.length_map, List.length_cons, List.length_nil, List.length_set, List.length_replicate, List.length_take, List.size_toArray]; omega))) [E25]
  refine AEnds.loopS ((n25_ls _ _) _ _ _  h) ?_
  simp only [E25, firstR, mk_keep, keepT, List.find?, Nat.reduceBEq, Option.map_some, Option.getD_some]
  simp (maxSteps := 2000000) (disch := (first | omega | (simp only [List.length_append, List.length_map, List.length_cons, List.length_nil, List.length_set, List.length_replicate, List.length_take, List.size_toArray]; omega))) [E25]
  try omega
theorem fit25 : Fits Try.prog E25.ref E25.dep Try.f25 = true := by kernel_rfl
theorem good25 : GoodV 25 := by
  intro xs r h
  simp only [SV] at h
  unfold SV25 at h
  split at h
  · obtain ⟨a0, h0, h⟩ := Option.bind_eq_some_iff.1 h
    obtain ⟨q, hq, rfl⟩ := Option.map_eq_some_iff.1 h
    obtain ⟨k, hk⟩ := of_pick hq
    obtain rfl := unI_eq h0
    exact okW_ends (mkE_ok (all_cons good33 all_nil) (all_cons goodR33 all_nil)) mixed Try.func25 rfl fit25 (n25_run k _  _ hk)
  · cases h
theorem goodR25 : GoodR 25 := fun _ _ _ _ _ _ h => by simp [SR] at h
end Go.Proofs.Ythkiklpcglogpaa.ZRat
namespace Go.Proofs.Ythkiklpcglogpaa.ZRat
open Go.RowKit Go.Proofs.Ythkiklpcglogpaa.Wd
open Go Go.Proofs.Ythkiklpcglogpaa.Ab Go.Proofs
set_option linter.unusedSimpArgs false
set_option linter.unusedVariables false
set_option maxHeartbeats 4000000
set_option maxRecDepth 10000
noncomputable def E64 : Env := mkE [] [] [(6, [0, 1, 5])] []
theorem n64_ls (r : (Int)) (k : Nat) : (∀ (x0 : List Int) (x1 : List Int) (x5 : Int), zelligeref03_Cmp.l0 k x0 x1 x5 = some r → AEnds E64 (finW Try.prog Try.f64.results) 0 (atLoop Try.f64 6) ⟨fr 41 [(0, (rowI .i64 x0)), (1, (rowI .i64 x1)), (5, (.int .i64 x5))], [], []⟩ (.int .i64 r)) := by
  induction k using Nat.strongRecOn with
  | _ k ih =>
  intro x0 x1 x5 h
  cases k with
  | zero => simp [zelligeref03_Cmp.l0] at h
  | succ k1 =>
  simp only [zelligeref03_Cmp.l0] at h
  simp only [Try.f64, atLoop, seek, firstR, reduceIte, Option.getD_some, Nat.reduceEqDiff]
  rcases ite_some h with ⟨c2, h⟩ | ⟨c2, h⟩
  · rcases ite_some h with ⟨c3, h⟩ | ⟨c3, h⟩
    · rcases ite_some h with ⟨c4, h⟩ | ⟨c4, h⟩
      · rcases ite_some h with ⟨c5, h⟩ | ⟨c5, h⟩
        · rcases ite_some h with ⟨c6, h⟩ | ⟨c6, h⟩
          · obtain rfl := Option.some.inj h
            simp (maxSteps := 2000000) (disch := (first | omega | (simp only [List.length_append, List.length_map, List.length_cons, List.length_nil, List.length_set, List.length_replicate, List.length_take, List.size_toArray]; omega))) [E64, c2, c3, c4, c5, c6]
            try omega
          · rcases ite_some h with ⟨c7, h⟩ | ⟨c7, h⟩
            · obtain rfl := Option.some.inj h
              simp (maxSteps := 2000000) (disch := (first | omega | (simp only [List.length_append, List.length_map, List.length_cons, List.length_nil, List.length_set, List.length_replicate, List.length_take, List.size_toArray]; omega))) [E64, c2, c3, c4, c5, c6, c7]
              try omega
            · simp (maxSteps := 2000000) (disch := (first | omega | (simp only [List.length_append, List.length_map, List.length_cons, List.length_nil, List.length_set, List.length_replicate, List.length_take, List.size_toArray]; omega))) [E64, c2, c3, c4, c5, c6, c7]
              refine AEnds.againS ((ih k1 (by omega)) _ _ _  h) ?_
              simp only [E64, firstR, mk_keep, keepT, List.find?, Nat.reduceBEq, Option.map_some, Option.getD_some]
              simp (maxSteps := 2000000) (disch := (first | omega | (simp only [List.length_append, List.length_map, List.length_cons, List.length_nil, List.length_set, List.length_replicate, List.length_take, List.size_toArray]; omega))) [E64, c2, c3, c4, c5, c6, c7]
              try omega
        · cases h
      · cases h
    · cases h
  · obtain rfl := Option.some.inj h
    simp (maxSteps := 2000000) (disch := (first | omega | (simp only [List.length_append, List.length_map, List.length_cons, List.length_nil, List.length_set, List.length_replicate, List.length_take, List.size_toArray]; omega))) [E64, c2]
    try omega
theorem n64_run (k : Nat) (l0 : List Int) (l1 : List Int) (r : (Int)) (h : zelligeref03_Cmp.f k l0 l1 = some r) : AEnds E64 (finW Try.prog Try.f64.results) 0 [.code (Try.f64.body.getD .skip)] (startA Try.f64 [(rowI .i64 l0), (rowI .i64 l1)] [] []) (.int .i64 r) := by
  unfold zelligeref03_Cmp.f at h
  simp only [Try.f64, Option.getD_some, startA]
  rcases ite_some h with ⟨c8, h⟩ | ⟨c8, h⟩
  · obtain rfl := Option.some.inj h
    simp (maxSteps := 2000000) (disch := (first | omega | (simp only [List.length_append, List.length_map, List.length_cons, List.length_nil, List.length_set, List.length_replicate, List.length_take, List.size_toArray]; omega))) [E64, c8]
    try omega
  · rcases ite_some h with ⟨c9, h⟩ | ⟨c9, h⟩
    · obtain rfl := Option.some.inj h
      simp (maxSteps := 2000000) (disch := (first | omega | (simp only [List.length_append, List.length_map, List.length_cons, List.length_nil, List.length_set, List.length_replicate, List.length_take, List.size_toArray]; omega))) [E64, c8, c9]
      try omega
    · simp (maxSteps := 2000000) (disch := (first | omega | (simp only [List.length_append, List.length_map, List.length_cons, List.length_nil, List.length_set, List.length_replicate, List.length_take, List.size_toArray]; omega))) [E64, c8, c9]
      refine AEnds.loopS ((n64_ls _ _) _ _ _  h) ?_
      simp only [E64, firstR, mk_keep, keepT, List.find?, Nat.reduceBEq, Option.map_some, Option.getD_some]
      simp (maxSteps := 2000000) (disch := (first | omega | (simp only [List.length_append, List.length_map, List.length_cons, List.length_nil, List.length_set, List.length_replicate, List.length_take, List.size_toArray]; omega))) [E64, c8, c9]
      try omega
theorem fit64 : Fits Try.prog E64.ref E64.dep Try.f64 = true := by kernel_rfl
theorem good64 : GoodV 64 := by
  intro xs r h
  simp only [SV] at h
  unfold SV64 at h
  split at h
  · obtain ⟨a0, h0, h⟩ := Option.bind_eq_some_iff.1 h
    obtain ⟨a1, h1, h⟩ := Option.bind_eq_some_iff.1 h
    obtain ⟨q, hq, rfl⟩ := Option.map_eq_some_iff.1 h
    obtain ⟨k, hk⟩ := of_pick hq
    obtain rfl := unI_eq h0
    obtain rfl := unI_eq h1
    exact okW_ends (mkE_ok all_nil all_nil) mixed Try.func64 rfl fit64 (n64_run k _ _  _ hk)
  · cases h
theorem goodR64 : GoodR 64 := fun _ _ _ _ _ _ h => by simp [SR] at h
end Go.Proofs.Ythkiklpcglogpaa.ZRat
namespace Go.Proofs.Ythkiklpcglogpaa.ZRat
open Go.RowKit Go.Proofs.Ythkiklpcglogpaa.Wd
open Go Go.Proofs.Ythkiklpcglogpaa.Ab Go.Proofs
set_option linter.unusedSimpArgs false
set_option linter.unusedVariables false
set_option maxHeartbeats 4000000
set_option maxRecDepth 10000
noncomputable def E48 : Env := mkE [] [] [(3, [0, 3, 4])] []
theorem n48_ls (r : (List Int)) (k : Nat) : (∀ (x0 : List Int) (x3 : List Int) (x4 : Int), zelligeref03_Nat.l0 k x0 x3 x4 = some r → AEnds E48 (finW Try.prog Try.f48.results) 0 (atLoop Try.f48 3) ⟨fr 36 [(0, (rowI .i64 x0)), (3, .own 0 0 x3.length 1), (4, (.int .i64 x4))], [.arr ((x3).map (.int .u32))], [false]⟩ (rowI .u32 r)) := by
  induction k using Nat.strongRecOn with
  | _ k ih =>
  intro x0 x3 x4 h
  cases k with
  | zero => simp [zelligeref03_Nat.l0] at h
  | succ k1 =>
  simp only [zelligeref03_Nat.l0] at h
  simp only [Try.f48, atLoop, seek, firstR, reduceIte, Option.getD_some, Nat.reduceEqDiff]
  rcases ite_some h with ⟨c2, h⟩ | ⟨c2, h⟩
  · rcases ite_some h with ⟨c3, h⟩ | ⟨c3, h⟩
    · rcases ite_some h with ⟨c4, h⟩ | ⟨c4, h⟩
      · rcases ite_some h with ⟨c5, h⟩ | ⟨c5, h⟩
        · rcases ite_some h with ⟨c6, h⟩ | ⟨c6, h⟩
          · simp (maxSteps := 2000000) (disch := (first | omega | (simp only [List.length_append, List.length_map, List.length_cons, List.length_nil, List.length_set, List.length_replicate, List.length_take, List.size_toArray]; omega))) [E48, c2, c3, c4, c5, c6]
            refine AEnds.againS ((ih k1 (by omega)) _ _ _  h) ?_
            simp only [E48, firstR, mk_keep, keepT, List.find?, Nat.reduceBEq, Option.map_some, Option.getD_some]
            simp (maxSteps := 2000000) (disch := (first | omega | (simp only [List.length_append, List.length_map, List.length_cons, List.length_nil, List.length_set, List.length_replicate, List.length_take, List.size_toArray]; omega))) [E48, c2, c3, c4, c5, c6]
            try omega
          · cases h
        · cases h
      · rcases ite_some h with ⟨c7, h⟩ | ⟨c7, h⟩
        · simp (maxSteps := 2000000) (disch := (first | omega | (simp only [List.length_append, List.length_map, List.length_cons, List.length_nil, List.length_set, List.length_replicate, List.length_take, List.size_toArray]; omega))) [E48, c2, c3, c4, c7]
          refine AEnds.againS ((ih k1 (by omega)) _ _ _  h) ?_
          simp only [E48, firstR, mk_keep, keepT, List.find?, Nat.reduceBEq, Option.map_some, Option.getD_some]
          simp (maxSteps := 2000000) (disch := (first | omega | (simp only [List.length_append, List.length_map, List.length_cons, List.length_nil, List.length_set, List.length_replicate, List.length_take, List.size_toArray]; omega))) [E48, c2, c3, c4, c7]
          try omega
        · cases h
    · cases h
  · obtain rfl := Option.some.inj h
    simp (maxSteps := 2000000) (disch := (first | omega | (simp only [List.length_append, List.length_map, List.length_cons, List.length_nil, List.length_set, List.length_replicate, List.length_take, List.size_toArray]; omega))) [E48, c2]
    try omega
theorem n48_run (k : Nat) (l0 : List Int) (r : (List Int)) (h : zelligeref03_Nat.f k l0 = some r) : AEnds E48 (finW Try.prog Try.f48.results) 0 [.code (Try.f48.body.getD .skip)] (startA Try.f48 [(rowI .i64 l0)] [] []) (rowI .u32 r) := by
  unfold zelligeref03_Nat.f at h
  simp only [Try.f48, Option.getD_some, startA]
  simp (maxSteps := 2000000) (disch := (first | omega | (simp only [List.length_append, List.length_map, List.length_cons, List.length_nil, List.length_set, List.length_replicate, List.length_take, List.size_toArray]; omega))) [E48]
  refine AEnds.loopS ((n48_ls _ _) _ _ _  h) ?_
  simp only [E48, firstR, mk_keep, keepT, List.find?, Nat.reduceBEq, Option.map_some, Option.getD_some]
  simp (maxSteps := 2000000) (disch := (first | omega | (simp only [List.length_append, List.length_map, List.length_cons, List.length_nil, List.length_set, List.length_replicate, List.length_take, List.size_toArray]; omega))) [E48]
  try omega
theorem fit48 : Fits Try.prog E48.ref E48.dep Try.f48 = true := by kernel_rfl
theorem good48 : GoodV 48 := by
  intro xs r h
  simp only [SV] at h
  unfold SV48 at h
  split at h
  · obtain ⟨a0, h0, h⟩ := Option.bind_eq_some_iff.1 h
    obtain ⟨q, hq, rfl⟩ := Option.map_eq_some_iff.1 h
    obtain ⟨k, hk⟩ := of_pick hq
    obtain rfl := unI_eq h0
    exact okW_ends (mkE_ok all_nil all_nil) mixed Try.func48 rfl fit48 (n48_run k _  _ hk)
  · cases h
theorem goodR48 : GoodR 48 := fun _ _ _ _ _ _ h => by simp [SR] at h
end Go.Proofs.Ythkiklpcglogpaa.ZRat
namespace Go.Proofs.Ythkiklpcglogpaa.ZRat
open Go.RowKit Go.Proofs.Ythkiklpcglogpaa.Wd
open Go Go.Proofs.Ythkiklpcglogpaa.Ab Go.Proofs
set_option linter.unusedSimpArgs false
set_option linter.unusedVariables false
set_option maxHeartbeats 4000000
set_option maxRecDepth 10000
noncomputable def E28 : Env := mkE [] [48] [(5, [0, 5, 6])] []
theorem n28_ls (r : (Bool)) (k : Nat) : (∀ (x0 : List Int) (x5 : List Int) (x6 : Int), zelligeref03_Same.l0 k x0 x5 x6 = some r → AEnds E28 (finW Try.prog Try.f28.results) 0 (atLoop Try.f28 5) ⟨fr 29 [(0, (rowI .u32 x0)), (5, (rowI .u32 x5)), (6, (.int .i64 x6))], [], []⟩ (.bool r)) := by
  induction k using Nat.strongRecOn with
  | _ k ih =>
  intro x0 x5 x6 h
  cases k with
  | zero => simp [zelligeref03_Same.l0] at h
  | succ k1 =>
  simp only [zelligeref03_Same.l0] at h
  simp only [Try.f28, atLoop, seek, firstR, reduceIte, Option.getD_some, Nat.reduceEqDiff]
  rcases ite_some h with ⟨c2, h⟩ | ⟨c2, h⟩
  · rcases ite_some h with ⟨c3, h⟩ | ⟨c3, h⟩
    · rcases ite_some h with ⟨c4, h⟩ | ⟨c4, h⟩
      · rcases ite_some h with ⟨c5, h⟩ | ⟨c5, h⟩
        · simp (maxSteps := 2000000) (disch := (first | omega | (simp only [List.length_append, List.length_map, List.length_cons, List.length_nil, List.length_set, List.length_replicate, List.length_take, List.size_toArray]; omega))) [E28, c2, c3, c4, c5]
          refine AEnds.againS ((ih k1 (by omega)) _ _ _  h) ?_
          simp only [E28, firstR, mk_keep, keepT, List.find?, Nat.reduceBEq, Option.map_some, Option.getD_some]
          simp (maxSteps := 2000000) (disch := (first | omega | (simp only [List.length_append, List.length_map, List.length_cons, List.length_nil, List.length_set, List.length_replicate, List.length_take, List.size_toArray]; omega))) [E28, c2, c3, c4, c5]
          try omega
        · obtain rfl := Option.some.inj h
          simp (maxSteps := 2000000) (disch := (first | omega | (simp only [List.length_append, List.length_map, List.length_cons, List.length_nil, List.length_set, List.length_replicate, List.length_take, List.size_toArray]; omega))) [E28, c2, c3, c4, c5]
          try omega
      · cases h
    · cases h
  · obtain rfl := Option.some.inj h
    simp (maxSteps := 2000000) (disch := (first | omega | (simp only [List.length_append, List.length_map, List.length_cons, List.length_nil, List.length_set, List.length_replicate, List.length_take, List.size_toArray]; omega))) [E28, c2]
    try omega
theorem n28_run (k : Nat) (l0 : List Int) (l1 : List Int) (r : (Bool)) (h : zelligeref03_Same.f k l0 l1 = some r) : AEnds E28 (finW Try.prog Try.f28.results) 0 [.code (Try.f28.body.getD .skip)] (startA Try.f28 [(rowI .u32 l0), (rowI .i64 l1)] [] []) (.bool r) := by
  unfold zelligeref03_Same.f at h
  simp only [Try.f28, Option.getD_some, startA]
  obtain ⟨t6, e7, h⟩ := Option.bind_eq_some_iff.1 h
  have p8 := pick_of (fun k r h => zelligeref03_Nat.mono _  k r h) e7
  rcases ite_some h with ⟨c9, h⟩ | ⟨c9, h⟩
  · simp (maxSteps := 2000000) (disch := (first | omega | (simp only [List.length_append, List.length_map, List.length_cons, List.length_nil, List.length_set, List.length_replicate, List.length_take, List.size_toArray]; omega))) [E28, p8, c9]
    refine AEnds.loopS ((n28_ls _ _) _ _ _  h) ?_
    simp only [E28, firstR, mk_keep, keepT, List.find?, Nat.reduceBEq, Option.map_some, Option.getD_some]
    simp (maxSteps := 2000000) (disch := (first | omega | (simp only [List.length_append, List.length_map, List.length_cons, List.length_nil, List.length_set, List.length_replicate, List.length_take, List.size_toArray]; omega))) [E28, p8, c9]
    try omega
  · obtain rfl := Option.some.inj h
    simp (maxSteps := 2000000) (disch := (first | omega | (simp only [List.length_append, List.length_map, List.length_cons, List.length_nil, List.length_set, List.length_replicate, List.length_take, List.size_toArray]; omega))) [E28, p8, c9]
    try omega
theorem fit28 : Fits Try.prog E28.ref E28.dep Try.f28 = true := by kernel_rfl
theorem good28 : GoodV 28 := by
  intro xs r h
  simp only [SV] at h
  unfold SV28 at h
  split at h
  · obtain ⟨a0, h0, h⟩ := Option.bind_eq_some_iff.1 h
    obtain ⟨a1, h1, h⟩ := Option.bind_eq_some_iff.1 h
    obtain ⟨q, hq, rfl⟩ := Option.map_eq_some_iff.1 h
    obtain ⟨k, hk⟩ := of_pick hq
    obtain rfl := unI_eq h0
    obtain rfl := unI_eq h1
    exact okW_ends (mkE_ok (all_cons good48 all_nil) (all_cons goodR48 all_nil)) mixed Try.func28 rfl fit28 (n28_run k _ _  _ hk)
  · cases h
theorem goodR28 : GoodR 28 := fun _ _ _ _ _ _ h => by simp [SR] at h
end Go.Proofs.Ythkiklpcglogpaa.ZRat
namespace Go.Proofs.Ythkiklpcglogpaa.ZRat
open Go.RowKit Go.Proofs.Ythkiklpcglogpaa.Wd
open Go Go.Proofs.Ythkiklpcglogpaa.Ab Go.Proofs
set_option linter.unusedSimpArgs false
set_option linter.unusedVariables false
set_option maxHeartbeats 4000000
set_option maxRecDepth 10000
noncomputable def E31 : Env := mkE [] [33] [(3, [0, 1, 5, 6, 7])] []
theorem n31_ls (r : (List Int)) (k : Nat) : (∀ (x0 : List Int) (x1 : List Int) (x5 : List Int) (x6 : Int) (x7 : Int), zelligeref03_Add.l0 k x0 x1 x5 x6 x7 = some r → AEnds E31 (finW Try.prog Try.f31.results) 0 (atLoop Try.f31 3) ⟨fr 53 [(0, (rowI .i64 x0)), (1, (rowI .i64 x1)), (5, .own 0 0 x5.length 1), (6, (.int .i64 x6)), (7, (.int .i64 x7))], [.arr ((x5).map (.int .i64))], [false]⟩ (rowI .i64 r)) := by
  induction k using Nat.strongRecOn with
  | _ k ih =>
  intro x0 x1 x5 x6 x7 h
  cases k with
  | zero => simp [zelligeref03_Add.l0] at h
  | succ k1 =>
  simp only [zelligeref03_Add.l0] at h
  simp only [Try.f31, atLoop, seek, firstR, reduceIte, Option.getD_some, Nat.reduceEqDiff]
  rcases ite_some h with ⟨c2, h⟩ | ⟨c2, h⟩
  · cases k1 with
    | zero => simp [zelligeref03_Add.j1] at h
    | succ k3 =>
    simp only [zelligeref03_Add.j1] at h
    rcases ite_some h with ⟨c4, h⟩ | ⟨c4, h⟩
    · rcases ite_some h with ⟨c5, h⟩ | ⟨c5, h⟩
      · rcases ite_some h with ⟨c6, h⟩ | ⟨c6, h⟩
        · rcases ite_some h with ⟨c7, h⟩ | ⟨c7, h⟩
          · rcases ite_some h with ⟨c8, h⟩ | ⟨c8, h⟩
            · simp (maxSteps := 2000000) (disch := (first | omega | (simp only [List.length_append, List.length_map, List.length_cons, List.length_nil, List.length_set, List.length_replicate, List.length_take, List.size_toArray]; omega))) [E31, c2, c6, c7, c8]
              refine AEnds.againS ((ih k3 (by omega)) _ _ _ _ _  h) ?_
              simp only [E31, firstR, mk_keep, keepT, List.find?, Nat.reduceBEq, Option.map_some, Option.getD_some]
              simp (maxSteps := 2000000) (disch := (first | omega | (simp only [List.length_append, List.length_map, List.length_cons, List.length_nil, List.length_set, List.length_replicate, List.length_take, List.size_toArray]; omega))) [E31, c2, c6, c7, c8]
              try omega
            · cases h
          · rcases ite_some h with ⟨c9, h⟩ | ⟨c9, h⟩
            · simp (maxSteps := 2000000) (disch := (first | omega | (simp only [List.length_append, List.length_map, List.length_cons, List.length_nil, List.length_set, List.length_replicate, List.length_take, List.size_toArray]; omega))) [E31, c2, c6, c7, c9]
              refine AEnds.againS ((ih k3 (by omega)) _ _ _ _ _  h) ?_
              simp only [E31, firstR, mk_keep, keepT, List.find?, Nat.reduceBEq, Option.map_some, Option.getD_some]
              simp (maxSteps := 2000000) (disch := (first | omega | (simp only [List.length_append, List.length_map, List.length_cons, List.length_nil, List.length_set, List.length_replicate, List.length_take, List.size_toArray]; omega))) [E31, c2, c6, c7, c9]
              try omega
            · cases h
        · cases h
      · exact absurd c2 c5
    · simp at c4
  · cases k1 with
    | zero => simp [zelligeref03_Add.j1] at h
    | succ k10 =>
    simp only [zelligeref03_Add.j1] at h
    rcases ite_some h with ⟨c11, h⟩ | ⟨c11, h⟩
    · simp only [decide_eq_true_eq] at c11
      rcases ite_some h with ⟨c12, h⟩ | ⟨c12, h⟩
      · exact absurd c12 c2
      · rcases ite_some h with ⟨c13, h⟩ | ⟨c13, h⟩
        · rcases ite_some h with ⟨c14, h⟩ | ⟨c14, h⟩
          · rcases ite_some h with ⟨c15, h⟩ | ⟨c15, h⟩
            · simp (maxSteps := 2000000) (disch := (first | omega | (simp only [List.length_append, List.length_map, List.length_cons, List.length_nil, List.length_set, List.length_replicate, List.length_take, List.size_toArray]; omega))) [E31, c2, c11, c14, c15]
              refine AEnds.againS ((ih k10 (by omega)) _ _ _ _ _  h) ?_
              simp only [E31, firstR, mk_keep, keepT, List.find?, Nat.reduceBEq, Option.map_some, Option.getD_some]
              simp (maxSteps := 2000000) (disch := (first | omega | (simp only [List.length_append, List.length_map, List.length_cons, List.length_nil, List.length_set, List.length_replicate, List.length_take, List.size_toArray]; omega))) [E31, c2, c11, c14, c15]
              try omega
            · cases h
          · cases h
        · exact absurd c11 c13
    · simp only [decide_eq_true_eq] at c11
      rcases ite_some h with ⟨c16, h⟩ | ⟨c16, h⟩
      · obtain ⟨t17, e18, h⟩ := Option.bind_eq_some_iff.1 h
        have p19 := pick_of (fun k r h => zelligeref03_Trim.mono _  k r h) e18
        obtain rfl := Option.some.inj h
        simp (maxSteps := 2000000) (disch := (first | omega | (simp only [List.length_append, List.length_map, List.length_cons, List.length_nil, List.length_set, List.length_replicate, List.length_take, List.size_toArray]; omega))) [E31, c2, c11, c16, p19]
        try omega
      · cases h
theorem n31_run (k : Nat) (l0 : List Int) (l1 : List Int) (r : (List Int)) (h : zelligeref03_Add.f k l0 l1 = some r) : AEnds E31 (finW Try.prog Try.f31.results) 0 [.code (Try.f31.body.getD .skip)] (startA Try.f31 [(rowI .i64 l0), (rowI .i64 l1)] [] []) (rowI .i64 r) := by
  unfold zelligeref03_Add.f at h
  simp only [Try.f31, Option.getD_some, startA]
  simp (maxSteps := 2000000) (disch := (first | omega | (simp only [List.length_append, List.length_map, List.length_cons, List.length_nil, List.length_set, List.length_replicate, List.length_take, List.size_toArray]; omega))) [E31]
  refine AEnds.loopS ((n31_ls _ _) _ _ _ _ _  h) ?_
  simp only [E31, firstR, mk_keep, keepT, List.find?, Nat.reduceBEq, Option.map_some, Option.getD_some]
  simp (maxSteps := 2000000) (disch := (first | omega | (simp only [List.length_append, List.length_map, List.length_cons, List.length_nil, List.length_set, List.length_replicate, List.length_take, List.size_toArray]; omega))) [E31]
  try omega
theorem fit31 : Fits Try.prog E31.ref E31.dep Try.f31 = true := by kernel_rfl
theorem good31 : GoodV 31 := by
  intro xs r h
  simp only [SV] at h
  unfold SV31 at h
  split at h
  · obtain ⟨a0, h0, h⟩ := Option.bind_eq_some_iff.1 h
    obtain ⟨a1, h1, h⟩ := Option.bind_eq_some_iff.1 h
    obtain ⟨q, hq, rfl⟩ := Option.map_eq_some_iff.1 h
    obtain ⟨k, hk⟩ := of_pick hq
    obtain rfl := unI_eq h0
    obtain rfl := unI_eq h1
    exact okW_ends (mkE_ok (all_cons good33 all_nil) (all_cons goodR33 all_nil)) mixed Try.func31 rfl fit31 (n31_run k _ _  _ hk)
  · cases h
theorem goodR31 : GoodR 31 := fun _ _ _ _ _ _ h => by simp [SR] at h
end Go.Proofs.Ythkiklpcglogpaa.ZRat
namespace Go.Proofs.Ythkiklpcglogpaa.ZRat
open Go.RowKit Go.Proofs.Ythkiklpcglogpaa.Wd
open Go Go.Proofs.Ythkiklpcglogpaa.Ab Go.Proofs
set_option linter.unusedSimpArgs false
set_option linter.unusedVariables false
set_option maxHeartbeats 4000000
set_option maxRecDepth 10000
noncomputable def E32 : Env := mkE [] [33] [(3, [0, 1, 5, 6]), (7, [0, 1, 5, 6, 7, 8])] []
theorem n32_ls (r : (List Int)) (k : Nat) : (∀ (x0 : List Int) (x1 : List Int) (x5 : List Int) (x6 : Int), zelligeref03_Mul.l0 k x0 x1 x5 x6 = some r → AEnds E32 (finW Try.prog Try.f32.results) 0 (atLoop Try.f32 3) ⟨fr 63 [(0, (rowI .i64 x0)), (1, (rowI .i64 x1)), (5, .own 0 0 x5.length 1), (6, (.int .i64 x6))], [.arr ((x5).map (.int .i64))], [false]⟩ (rowI .i64 r)) ∧ (∀ (x0 : List Int) (x1 : List Int) (x5 : List Int) (x6 : Int) (x7 : Int) (x8 : Int), zelligeref03_Mul.l1 k x0 x1 x5 x6 x7 x8 = some r → AEnds E32 (finW Try.prog Try.f32.results) 0 (atLoop Try.f32 7) ⟨fr 63 [(0, (rowI .i64 x0)), (1, (rowI .i64 x1)), (5, .own 0 0 x5.length 1), (6, (.int .i64 x6)), (7, (.int .i64 x7)), (8, (.int .i64 x8))], [.arr ((x5).map (.int .i64))], [false]⟩ (rowI .i64 r)) := by
  induction k using Nat.strongRecOn with
  | _ k ih =>
  refine ⟨?_, ?_⟩
  · intro x0 x1 x5 x6 h
    cases k with
    | zero => simp [zelligeref03_Mul.l0] at h
    | succ k1 =>
    simp only [zelligeref03_Mul.l0] at h
    simp only [Try.f32, atLoop, seek, firstR, reduceIte, Option.getD_some, Nat.reduceEqDiff]
    rcases ite_some h with ⟨c2, h⟩ | ⟨c2, h⟩
    · simp (maxSteps := 2000000) (disch := (first | omega | (simp only [List.length_append, List.length_map, List.length_cons, List.length_nil, List.length_set, List.length_replicate, List.length_take, List.size_toArray]; omega))) [E32, c2]
      refine AEnds.loopS ((ih k1 (by omega)).2 _ _ _ _ _ _  h) ?_
      simp only [E32, firstR, mk_keep, keepT, List.find?, Nat.reduceBEq, Option.map_some, Option.getD_some]
      simp (maxSteps := 2000000) (disch := (first | omega | (simp only [List.length_append, List.length_map, List.length_cons, List.length_nil, List.length_set, List.length_replicate, List.length_take, List.size_toArray]; omega))) [E32, c2]
      try omega
    · obtain ⟨t3, e4, h⟩ := Option.bind_eq_some_iff.1 h
      have p5 := pick_of (fun k r h => zelligeref03_Trim.mono _  k r h) e4
      obtain rfl := Option.some.inj h
      simp (maxSteps := 2000000) (disch := (first | omega | (simp only [List.length_append, List.length_map, List.length_cons, List.length_nil, List.length_set, List.length_replicate, List.length_take, List.size_toArray]; omega))) [E32, c2, p5]
      try omega
  · intro x0 x1 x5 x6 x7 x8 h
    cases k with
    | zero => simp [zelligeref03_Mul.l1] at h
    | succ k6 =>
    simp only [zelligeref03_Mul.l1] at h
    simp only [Try.f32, atLoop, seek, firstR, reduceIte, Option.getD_some, Nat.reduceEqDiff]
    rcases ite_some h with ⟨c7, h⟩ | ⟨c7, h⟩
    · rcases ite_some h with ⟨c8, h⟩ | ⟨c8, h⟩
      · rcases ite_some h with ⟨c9, h⟩ | ⟨c9, h⟩
        · rcases ite_some h with ⟨c10, h⟩ | ⟨c10, h⟩
          · rcases ite_some h with ⟨c11, h⟩ | ⟨c11, h⟩
            · rcases ite_some h with ⟨c12, h⟩ | ⟨c12, h⟩
              · simp (maxSteps := 2000000) (disch := (first | omega | (simp only [List.length_append, List.length_map, List.length_cons, List.length_nil, List.length_set, List.length_replicate, List.length_take, List.size_toArray]; omega))) [E32, c7, c8, c9, c10, c11, c12]
                refine AEnds.againS ((ih k6 (by omega)).2 _ _ _ _ _ _  h) ?_
                simp only [E32, firstR, mk_keep, keepT, List.find?, Nat.reduceBEq, Option.map_some, Option.getD_some]
                simp (maxSteps := 2000000) (disch := (first | omega | (simp only [List.length_append, List.length_map, List.length_cons, List.length_nil, List.length_set, List.length_replicate, List.length_take, List.size_toArray]; omega))) [E32, c7, c8, c9, c10, c11, c12]
                try omega
              · cases h
            · cases h
          · cases h
        · cases h
      · cases h
    · rcases ite_some h with ⟨c13, h⟩ | ⟨c13, h⟩
      · rcases ite_some h with ⟨c14, h⟩ | ⟨c14, h⟩
        · simp (maxSteps := 2000000) (disch := (first | omega | (simp only [List.length_append, List.length_map, List.length_cons, List.length_nil, List.length_set, List.length_replicate, List.length_take, List.size_toArray]; omega))) [E32, c7, c13, c14]
          refine AEnds.againS ((ih k6 (by omega)).1 _ _ _ _  h) ?_
          simp only [E32, firstR, mk_keep, keepT, List.find?, Nat.reduceBEq, Option.map_some, Option.getD_some]
          simp (maxSteps := 2000000) (disch := (first | omega | (simp only [List.length_append, List.length_map, List.length_cons, List.length_nil, List.length_set, List.length_replicate, List.length_take, List.size_toArray]; omega))) [E32, c7, c13, c14]
          try omega
        · cases h
      · cases h
theorem n32_run (k : Nat) (l0 : List Int) (l1 : List Int) (r : (List Int)) (h : zelligeref03_Mul.f k l0 l1 = some r) : AEnds E32 (finW Try.prog Try.f32.results) 0 [.code (Try.f32.body.getD .skip)] (startA Try.f32 [(rowI .i64 l0), (rowI .i64 l1)] [] []) (rowI .i64 r) := by
  unfold zelligeref03_Mul.f at h
  simp only [Try.f32, Option.getD_some, startA]
  rcases ite_some h with ⟨c15, h⟩ | ⟨c15, h⟩
  · rcases ite_some h with ⟨c16, h⟩ | ⟨c16, h⟩
    · simp (maxSteps := 2000000) (disch := (first | omega | (simp only [List.length_append, List.length_map, List.length_cons, List.length_nil, List.length_set, List.length_replicate, List.length_take, List.size_toArray]; omega))) [E32, c15, c16]
      refine AEnds.loopS ((n32_ls _ _).1 _ _ _ _  h) ?_
      simp only [E32, firstR, mk_keep, keepT, List.find?, Nat.reduceBEq, Option.map_some, Option.getD_some]
      simp (maxSteps := 2000000) (disch := (first | omega | (simp only [List.length_append, List.length_map, List.length_cons, List.length_nil, List.length_set, List.length_replicate, List.length_take, List.size_toArray]; omega))) [E32, c15, c16]
      try omega
    · cases h
  · cases h
theorem fit32 : Fits Try.prog E32.ref E32.dep Try.f32 = true := by kernel_rfl
theorem good32 : GoodV 32 := by
  intro xs r h
  simp only [SV] at h
  unfold SV32 at h
  split at h
  · obtain ⟨a0, h0, h⟩ := Option.bind_eq_some_iff.1 h
    obtain ⟨a1, h1, h⟩ := Option.bind_eq_some_iff.1 h
    obtain ⟨q, hq, rfl⟩ := Option.map_eq_some_iff.1 h
    obtain ⟨k, hk⟩ := of_pick hq
    obtain rfl := unI_eq h0
    obtain rfl := unI_eq h1
    exact okW_ends (mkE_ok (all_cons good33 all_nil) (all_cons goodR33 all_nil)) mixed Try.func32 rfl fit32 (n32_run k _ _  _ hk)
  · cases h
theorem goodR32 : GoodR 32 := fun _ _ _ _ _ _ h => by simp [SR] at h
end Go.Proofs.Ythkiklpcglogpaa.ZRat
namespace Go.Proofs.Ythkiklpcglogpaa.ZRat
open Go.RowKit Go.Proofs.Ythkiklpcglogpaa.Wd
open Go Go.Proofs.Ythkiklpcglogpaa.Ab Go.Proofs
set_option linter.unusedSimpArgs false
set_option linter.unusedVariables false
set_option maxHeartbeats 4000000
set_option maxRecDepth 10000
noncomputable def E65 : Env := mkE [] [33] [(3, [0, 1, 5, 6, 7])] []
theorem n65_ls (r : (List Int)) (k : Nat) : (∀ (x0 : List Int) (x1 : List Int) (x5 : List Int) (x6 : Int) (x7 : Int), zelligeref03_Sub.l0 k x0 x1 x5 x6 x7 = some r → AEnds E65 (finW Try.prog Try.f65.results) 0 (atLoop Try.f65 3) ⟨fr 42 [(0, (rowI .i64 x0)), (1, (rowI .i64 x1)), (5, .own 0 0 x5.length 1), (6, (.int .i64 x6)), (7, (.int .i64 x7))], [.arr ((x5).map (.int .i64))], [false]⟩ (rowI .i64 r)) := by
  induction k using Nat.strongRecOn with
  | _ k ih =>
  intro x0 x1 x5 x6 x7 h
  cases k with
  | zero => simp [zelligeref03_Sub.l0] at h
  | succ k1 =>
  simp only [zelligeref03_Sub.l0] at h
  simp only [Try.f65, atLoop, seek, firstR, reduceIte, Option.getD_some, Nat.reduceEqDiff]
  rcases ite_some h with ⟨c2, h⟩ | ⟨c2, h⟩
  · rcases ite_some h with ⟨c3, h⟩ | ⟨c3, h⟩
    · rcases ite_some h with ⟨c4, h⟩ | ⟨c4, h⟩
      · rcases ite_some h with ⟨c5, h⟩ | ⟨c5, h⟩
        · rcases ite_some h with ⟨c6, h⟩ | ⟨c6, h⟩
          · simp (maxSteps := 2000000) (disch := (first | omega | (simp only [List.length_append, List.length_map, List.length_cons, List.length_nil, List.length_set, List.length_replicate, List.length_take, List.size_toArray]; omega))) [E65, c2, c3, c4, c5, c6]
            refine AEnds.againS ((ih k1 (by omega)) _ _ _ _ _  h) ?_
            simp only [E65, firstR, mk_keep, keepT, List.find?, Nat.reduceBEq, Option.map_some, Option.getD_some]
            simp (maxSteps := 2000000) (disch := (first | omega | (simp only [List.length_append, List.length_map, List.length_cons, List.length_nil, List.length_set, List.length_replicate, List.length_take, List.size_toArray]; omega))) [E65, c2, c3, c4, c5, c6]
            try omega
          · cases h
        · rcases ite_some h with ⟨c7, h⟩ | ⟨c7, h⟩
          · simp (maxSteps := 2000000) (disch := (first | omega | (simp only [List.length_append, List.length_map, List.length_cons, List.length_nil, List.length_set, List.length_replicate, List.length_take, List.size_toArray]; omega))) [E65, c2, c3, c4, c5, c7]
            refine AEnds.againS ((ih k1 (by omega)) _ _ _ _ _  h) ?_
            simp only [E65, firstR, mk_keep, keepT, List.find?, Nat.reduceBEq, Option.map_some, Option.getD_some]
            simp (maxSteps := 2000000) (disch := (first | omega | (simp only [List.length_append, List.length_map, List.length_cons, List.length_nil, List.length_set, List.length_replicate, List.length_take, List.size_toArray]; omega))) [E65, c2, c3, c4, c5, c7]
            try omega
          · cases h
      · rcases ite_some h with ⟨c8, h⟩ | ⟨c8, h⟩
        · rcases ite_some h with ⟨c9, h⟩ | ⟨c9, h⟩
          · simp (maxSteps := 2000000) (disch := (first | omega | (simp only [List.length_append, List.length_map, List.length_cons, List.length_nil, List.length_set, List.length_replicate, List.length_take, List.size_toArray]; omega))) [E65, c2, c3, c4, c8, c9]
            refine AEnds.againS ((ih k1 (by omega)) _ _ _ _ _  h) ?_
            simp only [E65, firstR, mk_keep, keepT, List.find?, Nat.reduceBEq, Option.map_some, Option.getD_some]
            simp (maxSteps := 2000000) (disch := (first | omega | (simp only [List.length_append, List.length_map, List.length_cons, List.length_nil, List.length_set, List.length_replicate, List.length_take, List.size_toArray]; omega))) [E65, c2, c3, c4, c8, c9]
            try omega
          · cases h
        · rcases ite_some h with ⟨c10, h⟩ | ⟨c10, h⟩
          · simp (maxSteps := 2000000) (disch := (first | omega | (simp only [List.length_append, List.length_map, List.length_cons, List.length_nil, List.length_set, List.length_replicate, List.length_take, List.size_toArray]; omega))) [E65, c2, c3, c4, c8, c10]
            refine AEnds.againS ((ih k1 (by omega)) _ _ _ _ _  h) ?_
            simp only [E65, firstR, mk_keep, keepT, List.find?, Nat.reduceBEq, Option.map_some, Option.getD_some]
            simp (maxSteps := 2000000) (disch := (first | omega | (simp only [List.length_append, List.length_map, List.length_cons, List.length_nil, List.length_set, List.length_replicate, List.length_take, List.size_toArray]; omega))) [E65, c2, c3, c4, c8, c10]
            try omega
          · cases h
    · cases h
  · obtain ⟨t11, e12, h⟩ := Option.bind_eq_some_iff.1 h
    have p13 := pick_of (fun k r h => zelligeref03_Trim.mono _  k r h) e12
    obtain rfl := Option.some.inj h
    simp (maxSteps := 2000000) (disch := (first | omega | (simp only [List.length_append, List.length_map, List.length_cons, List.length_nil, List.length_set, List.length_replicate, List.length_take, List.size_toArray]; omega))) [E65, c2, p13]
    try omega
theorem n65_run (k : Nat) (l0 : List Int) (l1 : List Int) (r : (List Int)) (h : zelligeref03_Sub.f k l0 l1 = some r) : AEnds E65 (finW Try.prog Try.f65.results) 0 [.code (Try.f65.body.getD .skip)] (startA Try.f65 [(rowI .i64 l0), (rowI .i64 l1)] [] []) (rowI .i64 r) := by
  unfold zelligeref03_Sub.f at h
  simp only [Try.f65, Option.getD_some, startA]
  simp (maxSteps := 2000000) (disch := (first | omega | (simp only [List.length_append, List.length_map, List.length_cons, List.length_nil, List.length_set, List.length_replicate, List.length_take, List.size_toArray]; omega))) [E65]
  refine AEnds.loopS ((n65_ls _ _) _ _ _ _ _  h) ?_
  simp only [E65, firstR, mk_keep, keepT, List.find?, Nat.reduceBEq, Option.map_some, Option.getD_some]
  simp (maxSteps := 2000000) (disch := (first | omega | (simp only [List.length_append, List.length_map, List.length_cons, List.length_nil, List.length_set, List.length_replicate, List.length_take, List.size_toArray]; omega))) [E65]
  try omega
theorem fit65 : Fits Try.prog E65.ref E65.dep Try.f65 = true := by kernel_rfl
theorem good65 : GoodV 65 := by
  intro xs r h
  simp only [SV] at h
  unfold SV65 at h
  split at h
  · obtain ⟨a0, h0, h⟩ := Option.bind_eq_some_iff.1 h
    obtain ⟨a1, h1, h⟩ := Option.bind_eq_some_iff.1 h
    obtain ⟨q, hq, rfl⟩ := Option.map_eq_some_iff.1 h
    obtain ⟨k, hk⟩ := of_pick hq
    obtain rfl := unI_eq h0
    obtain rfl := unI_eq h1
    exact okW_ends (mkE_ok (all_cons good33 all_nil) (all_cons goodR33 all_nil)) mixed Try.func65 rfl fit65 (n65_run k _ _  _ hk)
  · cases h
theorem goodR65 : GoodR 65 := fun _ _ _ _ _ _ h => by simp [SR] at h
end Go.Proofs.Ythkiklpcglogpaa.ZRat
namespace Go.Proofs.Ythkiklpcglogpaa.ZRat
open Go.RowKit Go.Proofs.Ythkiklpcglogpaa.Wd
open Go Go.Proofs.Ythkiklpcglogpaa.Ab Go.Proofs
set_option linter.unusedSimpArgs false
set_option linter.unusedVariables false
set_option maxHeartbeats 4000000
set_option maxRecDepth 10000
noncomputable def E45 : Env := mkE [] [31, 33, 64, 65] [(3, [0, 1, 6, 7, 8])] []
theorem n45_ls (r : (List Int × List Int)) (k : Nat) : (∀ (x0 : List Int) (x1 : List Int) (x6 : List Int) (x7 : List Int) (x8 : Int), zelligeref03_DivMod.l0 k x0 x1 x6 x7 x8 = some r → AEnds E45 (finW Try.prog Try.f45.results) 0 (atLoop Try.f45 3) ⟨fr 62 [(0, (rowI .i64 x0)), (1, (rowI .i64 x1)), (6, .own 0 0 x6.length 1), (7, (rowI .i64 x7)), (8, (.int .i64 x8))], [.arr ((x6).map (.int .i64))], [false]⟩ (.tup [(rowI .i64 r.1), (rowI .i64 r.2)])) ∧ (∀ (x0 : List Int) (x1 : List Int) (x6 : List Int) (x7 : List Int) (x8 : Int), zelligeref03_DivMod.l0 k x0 x1 x6 x7 x8 = some r → AEnds E45 (finW Try.prog Try.f45.results) 0 (atLoop Try.f45 3) ⟨fr 62 [(0, (rowI .i64 x0)), (1, (rowI .i64 x1)), (6, .own 0 0 x6.length 1), (7, .own 1 0 x7.length 1), (8, (.int .i64 x8))], [.arr ((x6).map (.int .i64)), .arr ((x7).map (.int .i64))], [false, false]⟩ (.tup [(rowI .i64 r.1), (rowI .i64 r.2)])) := by
  induction k using Nat.strongRecOn with
  | _ k ih =>
  refine ⟨?_, ?_⟩
  · intro x0 x1 x6 x7 x8 h
    cases k with
    | zero => simp [zelligeref03_DivMod.l0] at h
    | succ k1 =>
    simp only [zelligeref03_DivMod.l0] at h
    simp only [Try.f45, atLoop, seek, firstR, reduceIte, Option.getD_some, Nat.reduceEqDiff]
    rcases ite_some h with ⟨c2, h⟩ | ⟨c2, h⟩
    · obtain ⟨t3, e4, h⟩ := Option.bind_eq_some_iff.1 h
      have p5 := pick_of (fun k r h => zelligeref03_Add.mono _ _  k r h) e4
      rcases ite_some h with ⟨c6, h⟩ | ⟨c6, h⟩
      · rcases ite_some h with ⟨c7, h⟩ | ⟨c7, h⟩
        · rcases ite_some h with ⟨c8, h⟩ | ⟨c8, h⟩
          · rcases ite_some h with ⟨c9, h⟩ | ⟨c9, h⟩
            · obtain ⟨t10, e11, h⟩ := Option.bind_eq_some_iff.1 h
              have p12 := pick_of (fun k r h => zelligeref03_Add.mono _ _  k r h) e11
              cases k1 with
              | zero => simp [zelligeref03_DivMod.j1] at h
              | succ k13 =>
              simp only [zelligeref03_DivMod.j1] at h
              obtain ⟨t14, e15, h⟩ := Option.bind_eq_some_iff.1 h
              have p16 := pick_of (fun k r h => zelligeref03_Cmp.mono _ _  k r h) e15
              rcases ite_some h with ⟨c17, h⟩ | ⟨c17, h⟩
              · obtain ⟨t18, e19, h⟩ := Option.bind_eq_some_iff.1 h
                have p20 := pick_of (fun k r h => zelligeref03_Sub.mono _ _  k r h) e19
                rcases ite_some h with ⟨c21, h⟩ | ⟨c21, h⟩
                · rcases ite_some h with ⟨c22, h⟩ | ⟨c22, h⟩
                  · rcases ite_some h with ⟨c23, h⟩ | ⟨c23, h⟩
                    · simp (maxSteps := 2000000) (disch := (first | omega | (simp only [List.length_append, List.length_map, List.length_cons, List.length_nil, List.length_set, List.length_replicate, List.length_take, List.size_toArray]; omega))) [E45, c2, p5, c6, c7, c8, c9, p12, p16, c17, p20, c22]
                      refine AEnds.againS ((ih k13 (by omega)).1 _ _ _ _ _  h) ?_
                      simp only [E45, firstR, mk_keep, keepT, List.find?, Nat.reduceBEq, Option.map_some, Option.getD_some]
                      simp (maxSteps := 2000000) (disch := (first | omega | (simp only [List.length_append, List.length_map, List.length_cons, List.length_nil, List.length_set, List.length_replicate, List.length_take, List.size_toArray]; omega))) [E45, c2, p5, c6, c7, c8, c9, p12, p16, c17, p20, c22]
                      try omega
                    · exact absurd c8 c23
                  · cases h
                · exact absurd c6 c21
              · simp (maxSteps := 2000000) (disch := (first | omega | (simp only [List.length_append, List.length_map, List.length_cons, List.length_nil, List.length_set, List.length_replicate, List.length_take, List.size_toArray]; omega))) [E45, c2, p5, c6, c7, c8, c9, p12, p16, c17]
                refine AEnds.againS ((ih k13 (by omega)).1 _ _ _ _ _  h) ?_
                simp only [E45, firstR, mk_keep, keepT, List.find?, Nat.reduceBEq, Option.map_some, Option.getD_some]
                simp (maxSteps := 2000000) (disch := (first | omega | (simp only [List.length_append, List.length_map, List.length_cons, List.length_nil, List.length_set, List.length_replicate, List.length_take, List.size_toArray]; omega))) [E45, c2, p5, c6, c7, c8, c9, p12, p16, c17]
                try omega
            · cases k1 with
              | zero => simp [zelligeref03_DivMod.j1] at h
              | succ k24 =>
              simp only [zelligeref03_DivMod.j1] at h
              obtain ⟨t25, e26, h⟩ := Option.bind_eq_some_iff.1 h
              have p27 := pick_of (fun k r h => zelligeref03_Cmp.mono _ _  k r h) e26
              rcases ite_some h with ⟨c28, h⟩ | ⟨c28, h⟩
              · obtain ⟨t29, e30, h⟩ := Option.bind_eq_some_iff.1 h
                have p31 := pick_of (fun k r h => zelligeref03_Sub.mono _ _  k r h) e30
                rcases ite_some h with ⟨c32, h⟩ | ⟨c32, h⟩
                · rcases ite_some h with ⟨c33, h⟩ | ⟨c33, h⟩
                  · rcases ite_some h with ⟨c34, h⟩ | ⟨c34, h⟩
                    · simp (maxSteps := 2000000) (disch := (first | omega | (simp only [List.length_append, List.length_map, List.length_cons, List.length_nil, List.length_set, List.length_replicate, List.length_take, List.size_toArray]; omega))) [E45, c2, p5, c6, c7, c8, c9, p27, c28, p31, c33]
                      refine AEnds.againS ((ih k24 (by omega)).1 _ _ _ _ _  h) ?_
                      simp only [E45, firstR, mk_keep, keepT, List.find?, Nat.reduceBEq, Option.map_some, Option.getD_some]
                      simp (maxSteps := 2000000) (disch := (first | omega | (simp only [List.length_append, List.length_map, List.length_cons, List.length_nil, List.length_set, List.length_replicate, List.length_take, List.size_toArray]; omega))) [E45, c2, p5, c6, c7, c8, c9, p27, c28, p31, c33]
                      try omega
                    · exact absurd c8 c34
                  · cases h
                · exact absurd c6 c32
              · simp (maxSteps := 2000000) (disch := (first | omega | (simp only [List.length_append, List.length_map, List.length_cons, List.length_nil, List.length_set, List.length_replicate, List.length_take, List.size_toArray]; omega))) [E45, c2, p5, c6, c7, c8, c9, p27, c28]
                refine AEnds.againS ((ih k24 (by omega)).1 _ _ _ _ _  h) ?_
                simp only [E45, firstR, mk_keep, keepT, List.find?, Nat.reduceBEq, Option.map_some, Option.getD_some]
                simp (maxSteps := 2000000) (disch := (first | omega | (simp only [List.length_append, List.length_map, List.length_cons, List.length_nil, List.length_set, List.length_replicate, List.length_take, List.size_toArray]; omega))) [E45, c2, p5, c6, c7, c8, c9, p27, c28]
                try omega
          · cases h
        · cases h
      · cases h
    · obtain ⟨t35, e36, h⟩ := Option.bind_eq_some_iff.1 h
      have p37 := pick_of (fun k r h => zelligeref03_Trim.mono _  k r h) e36
      obtain rfl := Option.some.inj h
      simp (maxSteps := 2000000) (disch := (first | omega | (simp only [List.length_append, List.length_map, List.length_cons, List.length_nil, List.length_set, List.length_replicate, List.length_take, List.size_toArray]; omega))) [E45, c2, p37]
      try omega
  · intro x0 x1 x6 x7 x8 h
    cases k with
    | zero => simp [zelligeref03_DivMod.l0] at h
    | succ k38 =>
    simp only [zelligeref03_DivMod.l0] at h
    simp only [Try.f45, atLoop, seek, firstR, reduceIte, Option.getD_some, Nat.reduceEqDiff]
    rcases ite_some h with ⟨c39, h⟩ | ⟨c39, h⟩
    · obtain ⟨t40, e41, h⟩ := Option.bind_eq_some_iff.1 h
      have p42 := pick_of (fun k r h => zelligeref03_Add.mono _ _  k r h) e41
      rcases ite_some h with ⟨c43, h⟩ | ⟨c43, h⟩
      · rcases ite_some h with ⟨c44, h⟩ | ⟨c44, h⟩
        · rcases ite_some h with ⟨c45, h⟩ | ⟨c45, h⟩
          · rcases ite_some h with ⟨c46, h⟩ | ⟨c46, h⟩
            · obtain ⟨t47, e48, h⟩ := Option.bind_eq_some_iff.1 h
              have p49 := pick_of (fun k r h => zelligeref03_Add.mono _ _  k r h) e48
              cases k38 with
              | zero => simp [zelligeref03_DivMod.j1] at h
              | succ k50 =>
              simp only [zelligeref03_DivMod.j1] at h
              obtain ⟨t51, e52, h⟩ := Option.bind_eq_some_iff.1 h
              have p53 := pick_of (fun k r h => zelligeref03_Cmp.mono _ _  k r h) e52
              rcases ite_some h with ⟨c54, h⟩ | ⟨c54, h⟩
              · obtain ⟨t55, e56, h⟩ := Option.bind_eq_some_iff.1 h
                have p57 := pick_of (fun k r h => zelligeref03_Sub.mono _ _  k r h) e56
                rcases ite_some h with ⟨c58, h⟩ | ⟨c58, h⟩
                · rcases ite_some h with ⟨c59, h⟩ | ⟨c59, h⟩
                  · rcases ite_some h with ⟨c60, h⟩ | ⟨c60, h⟩
                    · simp (maxSteps := 2000000) (disch := (first | omega | (simp only [List.length_append, List.length_map, List.length_cons, List.length_nil, List.length_set, List.length_replicate, List.length_take, List.size_toArray]; omega))) [E45, c39, p42, c43, c44, c45, c46, p49, p53, c54, p57, c59]
                      refine AEnds.againS ((ih k50 (by omega)).1 _ _ _ _ _  h) ?_
                      simp only [E45, firstR, mk_keep, keepT, List.find?, Nat.reduceBEq, Option.map_some, Option.getD_some]
                      simp (maxSteps := 2000000) (disch := (first | omega | (simp only [List.length_append, List.length_map, List.length_cons, List.length_nil, List.length_set, List.length_replicate, List.length_take, List.size_toArray]; omega))) [E45, c39, p42, c43, c44, c45, c46, p49, p53, c54, p57, c59]
                      try omega
                    · exact absurd c45 c60
                  · cases h
                · exact absurd c43 c58
              · simp (maxSteps := 2000000) (disch := (first | omega | (simp only [List.length_append, List.length_map, List.length_cons, List.length_nil, List.length_set, List.length_replicate, List.length_take, List.size_toArray]; omega))) [E45, c39, p42, c43, c44, c45, c46, p49, p53, c54]
                refine AEnds.againS ((ih k50 (by omega)).1 _ _ _ _ _  h) ?_
                simp only [E45, firstR, mk_keep, keepT, List.find?, Nat.reduceBEq, Option.map_some, Option.getD_some]
                simp (maxSteps := 2000000) (disch := (first | omega | (simp only [List.length_append, List.length_map, List.length_cons, List.length_nil, List.length_set, List.length_replicate, List.length_take, List.size_toArray]; omega))) [E45, c39, p42, c43, c44, c45, c46, p49, p53, c54]
                try omega
            · cases k38 with
              | zero => simp [zelligeref03_DivMod.j1] at h
              | succ k61 =>
              simp only [zelligeref03_DivMod.j1] at h
              obtain ⟨t62, e63, h⟩ := Option.bind_eq_some_iff.1 h
              have p64 := pick_of (fun k r h => zelligeref03_Cmp.mono _ _  k r h) e63
              rcases ite_some h with ⟨c65, h⟩ | ⟨c65, h⟩
              · obtain ⟨t66, e67, h⟩ := Option.bind_eq_some_iff.1 h
                have p68 := pick_of (fun k r h => zelligeref03_Sub.mono _ _  k r h) e67
                rcases ite_some h with ⟨c69, h⟩ | ⟨c69, h⟩
                · rcases ite_some h with ⟨c70, h⟩ | ⟨c70, h⟩
                  · rcases ite_some h with ⟨c71, h⟩ | ⟨c71, h⟩
                    · simp (maxSteps := 2000000) (disch := (first | omega | (simp only [List.length_append, List.length_map, List.length_cons, List.length_nil, List.length_set, List.length_replicate, List.length_take, List.size_toArray]; omega))) [E45, c39, p42, c43, c44, c45, c46, p64, c65, p68, c70]
                      refine AEnds.againS ((ih k61 (by omega)).1 _ _ _ _ _  h) ?_
                      simp only [E45, firstR, mk_keep, keepT, List.find?, Nat.reduceBEq, Option.map_some, Option.getD_some]
                      simp (maxSteps := 2000000) (disch := (first | omega | (simp only [List.length_append, List.length_map, List.length_cons, List.length_nil, List.length_set, List.length_replicate, List.length_take, List.size_toArray]; omega))) [E45, c39, p42, c43, c44, c45, c46, p64, c65, p68, c70]
                      try omega
                    · exact absurd c45 c71
                  · cases h
                · exact absurd c43 c69
              · simp (maxSteps := 2000000) (disch := (first | omega | (simp only [List.length_append, List.length_map, List.length_cons, List.length_nil, List.length_set, List.length_replicate, List.length_take, List.size_toArray]; omega))) [E45, c39, p42, c43, c44, c45, c46, p64, c65]
                refine AEnds.againS ((ih k61 (by omega)).1 _ _ _ _ _  h) ?_
                simp only [E45, firstR, mk_keep, keepT, List.find?, Nat.reduceBEq, Option.map_some, Option.getD_some]
                simp (maxSteps := 2000000) (disch := (first | omega | (simp only [List.length_append, List.length_map, List.length_cons, List.length_nil, List.length_set, List.length_replicate, List.length_take, List.size_toArray]; omega))) [E45, c39, p42, c43, c44, c45, c46, p64, c65]
                try omega
          · cases h
        · cases h
      · cases h
    · obtain ⟨t72, e73, h⟩ := Option.bind_eq_some_iff.1 h
      have p74 := pick_of (fun k r h => zelligeref03_Trim.mono _  k r h) e73
      obtain rfl := Option.some.inj h
      simp (maxSteps := 2000000) (disch := (first | omega | (simp only [List.length_append, List.length_map, List.length_cons, List.length_nil, List.length_set, List.length_replicate, List.length_take, List.size_toArray]; omega))) [E45, c39, p74]
      try omega
theorem n45_run (k : Nat) (l0 : List Int) (l1 : List Int) (r : (List Int × List Int)) (h : zelligeref03_DivMod.f k l0 l1 = some r) : AEnds E45 (finW Try.prog Try.f45.results) 0 [.code (Try.f45.body.getD .skip)] (startA Try.f45 [(rowI .i64 l0), (rowI .i64 l1)] [] []) (.tup [(rowI .i64 r.1), (rowI .i64 r.2)]) := by
  unfold zelligeref03_DivMod.f at h
  simp only [Try.f45, Option.getD_some, startA]
  rcases ite_some h with ⟨c75, h⟩ | ⟨c75, h⟩
  · rcases ite_some h with ⟨c76, h⟩ | ⟨c76, h⟩
    · simp (maxSteps := 2000000) (disch := (first | omega | (simp only [List.length_append, List.length_map, List.length_cons, List.length_nil, List.length_set, List.length_replicate, List.length_take, List.size_toArray]; omega))) [E45, c75, c76]
      refine AEnds.loopS ((n45_ls _ _).2 _ _ _ _ _  h) ?_
      simp only [E45, firstR, mk_keep, keepT, List.find?, Nat.reduceBEq, Option.map_some, Option.getD_some]
      simp (maxSteps := 2000000) (disch := (first | omega | (simp only [List.length_append, List.length_map, List.length_cons, List.length_nil, List.length_set, List.length_replicate, List.length_take, List.size_toArray]; omega))) [E45, c75, c76]
      try omega
    · cases h
  · cases h
theorem fit45 : Fits Try.prog E45.ref E45.dep Try.f45 = true := by kernel_rfl
theorem good45 : GoodV 45 := by
  intro xs r h
  simp only [SV] at h
  unfold SV45 at h
  split at h
  · obtain ⟨a0, h0, h⟩ := Option.bind_eq_some_iff.1 h
    obtain ⟨a1, h1, h⟩ := Option.bind_eq_some_iff.1 h
    obtain ⟨q, hq, rfl⟩ := Option.map_eq_some_iff.1 h
    obtain ⟨k, hk⟩ := of_pick hq
    obtain rfl := unI_eq h0
    obtain rfl := unI_eq h1
    exact okW_ends (mkE_ok (all_cons good31 (all_cons good33 (all_cons good64 (all_cons good65 all_nil)))) (all_cons goodR31 (all_cons goodR33 (all_cons goodR64 (all_cons goodR65 all_nil))))) mixed Try.func45 rfl fit45 (n45_run k _ _  _ hk)
  · cases h
theorem goodR45 : GoodR 45 := fun _ _ _ _ _ _ h => by simp [SR] at h
end Go.Proofs.Ythkiklpcglogpaa.ZRat
namespace Go.Proofs.Ythkiklpcglogpaa.ZRat
open Go.RowKit Go.Proofs.Ythkiklpcglogpaa.Wd
open Go Go.Proofs.Ythkiklpcglogpaa.Ab Go.Proofs
set_option linter.unusedSimpArgs false
set_option linter.unusedVariables false
set_option maxHeartbeats 4000000
set_option maxRecDepth 10000
noncomputable def E63 : Env := mkE [] [33] [(3, [0, 3, 4, 5])] []
theorem n63_ls (r : (List Int)) (k : Nat) : (∀ (x0 : List Int) (x3 : List Int) (x4 : Int) (x5 : Int), zelligeref03_Half.l0 k x0 x3 x4 x5 = some r → AEnds E63 (finW Try.prog Try.f63.results) 0 (atLoop Try.f63 3) ⟨fr 32 [(0, (rowI .i64 x0)), (3, .own 0 0 x3.length 1), (4, (.int .i64 x4)), (5, (.int .i64 x5))], [.arr ((x3).map (.int .i64))], [false]⟩ (rowI .i64 r)) := by
  induction k using Nat.strongRecOn with
  | _ k ih =>
  intro x0 x3 x4 x5 h
  cases k with
  | zero => simp [zelligeref03_Half.l0] at h
  | succ k1 =>
  simp only [zelligeref03_Half.l0] at h
  simp only [Try.f63, atLoop, seek, firstR, reduceIte, Option.getD_some, Nat.reduceEqDiff]
  rcases ite_some h with ⟨c2, h⟩ | ⟨c2, h⟩
  · rcases ite_some h with ⟨c3, h⟩ | ⟨c3, h⟩
    · rcases ite_some h with ⟨c4, h⟩ | ⟨c4, h⟩
      · rcases ite_some h with ⟨c5, h⟩ | ⟨c5, h⟩
        · simp (maxSteps := 2000000) (disch := (first | omega | (simp only [List.length_append, List.length_map, List.length_cons, List.length_nil, List.length_set, List.length_replicate, List.length_take, List.size_toArray]; omega))) [E63, c2, c3, c4, c5]
          refine AEnds.againS ((ih k1 (by omega)) _ _ _ _  h) ?_
          simp only [E63, firstR, mk_keep, keepT, List.find?, Nat.reduceBEq, Option.map_some, Option.getD_some]
          simp (maxSteps := 2000000) (disch := (first | omega | (simp only [List.length_append, List.length_map, List.length_cons, List.length_nil, List.length_set, List.length_replicate, List.length_take, List.size_toArray]; omega))) [E63, c2, c3, c4, c5]
          try omega
        · cases h
      · cases h
    · cases h
  · obtain ⟨t6, e7, h⟩ := Option.bind_eq_some_iff.1 h
    have p8 := pick_of (fun k r h => zelligeref03_Trim.mono _  k r h) e7
    obtain rfl := Option.some.inj h
    simp (maxSteps := 2000000) (disch := (first | omega | (simp only [List.length_append, List.length_map, List.length_cons, List.length_nil, List.length_set, List.length_replicate, List.length_take, List.size_toArray]; omega))) [E63, c2, p8]
    try omega
theorem n63_run (k : Nat) (l0 : List Int) (r : (List Int)) (h : zelligeref03_Half.f k l0 = some r) : AEnds E63 (finW Try.prog Try.f63.results) 0 [.code (Try.f63.body.getD .skip)] (startA Try.f63 [(rowI .i64 l0)] [] []) (rowI .i64 r) := by
  unfold zelligeref03_Half.f at h
  simp only [Try.f63, Option.getD_some, startA]
  rcases ite_some h with ⟨c9, h⟩ | ⟨c9, h⟩
  · rcases ite_some h with ⟨c10, h⟩ | ⟨c10, h⟩
    · simp (maxSteps := 2000000) (disch := (first | omega | (simp only [List.length_append, List.length_map, List.length_cons, List.length_nil, List.length_set, List.length_replicate, List.length_take, List.size_toArray]; omega))) [E63, c9, c10]
      refine AEnds.loopS ((n63_ls _ _) _ _ _ _  h) ?_
      simp only [E63, firstR, mk_keep, keepT, List.find?, Nat.reduceBEq, Option.map_some, Option.getD_some]
      simp (maxSteps := 2000000) (disch := (first | omega | (simp only [List.length_append, List.length_map, List.length_cons, List.length_nil, List.length_set, List.length_replicate, List.length_take, List.size_toArray]; omega))) [E63, c9, c10]
      try omega
    · cases h
  · cases h
theorem fit63 : Fits Try.prog E63.ref E63.dep Try.f63 = true := by kernel_rfl
theorem good63 : GoodV 63 := by
  intro xs r h
  simp only [SV] at h
  unfold SV63 at h
  split at h
  · obtain ⟨a0, h0, h⟩ := Option.bind_eq_some_iff.1 h
    obtain ⟨q, hq, rfl⟩ := Option.map_eq_some_iff.1 h
    obtain ⟨k, hk⟩ := of_pick hq
    obtain rfl := unI_eq h0
    exact okW_ends (mkE_ok (all_cons good33 all_nil) (all_cons goodR33 all_nil)) mixed Try.func63 rfl fit63 (n63_run k _  _ hk)
  · cases h
theorem goodR63 : GoodR 63 := fun _ _ _ _ _ _ h => by simp [SR] at h
end Go.Proofs.Ythkiklpcglogpaa.ZRat
namespace Go.Proofs.Ythkiklpcglogpaa.ZRat
open Go.RowKit Go.Proofs.Ythkiklpcglogpaa.Wd
open Go Go.Proofs.Ythkiklpcglogpaa.Ab Go.Proofs
set_option linter.unusedSimpArgs false
set_option linter.unusedVariables false
set_option maxHeartbeats 4000000
set_option maxRecDepth 10000
noncomputable def E44 : Env := mkE [] [31, 32, 63, 64, 65] [(7, [5, 6, 7, 8]), (9, [5, 6, 7, 8]), (10, [5, 6, 7, 8]), (12, [5, 6, 7, 8]), (18, [5, 7, 8, 9])] []
theorem n44_ls (r : (List Int)) (k : Nat) : (∀ (x5 : List Int) (x6 : List Int) (x7 : List Int) (x8 : Int), zelligeref03_Gcd.l0 k x5 x6 x7 x8 = some r → AEnds E44 (finW Try.prog Try.f44.results) 0 (atLoop Try.f44 7) ⟨fr 76 [(5, .own 0 0 x5.length 1), (6, (rowI .i64 x6)), (7, (rowI .i64 x7)), (8, (.int .i64 x8))], [.arr ((x5).map (.int .i64))], [false]⟩ (rowI .i64 r)) ∧ (∀ (x5 : List Int) (x6 : List Int) (x7 : List Int) (x8 : Int), zelligeref03_Gcd.l1 k x5 x6 x7 x8 = some r → AEnds E44 (finW Try.prog Try.f44.results) 0 (atLoop Try.f44 9) ⟨fr 76 [(5, .own 0 0 x5.length 1), (6, (rowI .i64 x6)), (7, (rowI .i64 x7)), (8, (.int .i64 x8))], [.arr ((x5).map (.int .i64))], [false]⟩ (rowI .i64 r)) ∧ (∀ (x5 : List Int) (x6 : List Int) (x7 : List Int) (x8 : Int), zelligeref03_Gcd.l2 k x5 x6 x7 x8 = some r → AEnds E44 (finW Try.prog Try.f44.results) 0 (atLoop Try.f44 10) ⟨fr 76 [(5, .own 0 0 x5.length 1), (6, (rowI .i64 x6)), (7, (rowI .i64 x7)), (8, (.int .i64 x8))], [.arr ((x5).map (.int .i64))], [false]⟩ (rowI .i64 r)) ∧ (∀ (x5 : List Int) (x6 : List Int) (x7 : List Int) (x8 : Int), zelligeref03_Gcd.l3 k x5 x6 x7 x8 = some r → AEnds E44 (finW Try.prog Try.f44.results) 0 (atLoop Try.f44 12) ⟨fr 76 [(5, .own 0 0 x5.length 1), (6, (rowI .i64 x6)), (7, (rowI .i64 x7)), (8, (.int .i64 x8))], [.arr ((x5).map (.int .i64))], [false]⟩ (rowI .i64 r)) ∧ (∀ (x5 : List Int) (x7 : List Int) (x8 : Int) (x9 : Int), zelligeref03_Gcd.l4 k x5 x7 x8 x9 = some r → AEnds E44 (finW Try.prog Try.f44.results) 0 (atLoop Try.f44 18) ⟨fr 76 [(5, (rowI .i64 x5)), (7, (rowI .i64 x7)), (8, (.int .i64 x8)), (9, (.int .i64 x9))], [], []⟩ (rowI .i64 r)) ∧ (∀ (x5 : List Int) (x7 : List Int) (x8 : Int) (x9 : Int), zelligeref03_Gcd.l4 k x5 x7 x8 x9 = some r → AEnds E44 (finW Try.prog Try.f44.results) 0 (atLoop Try.f44 18) ⟨fr 76 [(5, .own 0 0 x5.length 1), (7, (rowI .i64 x7)), (8, (.int .i64 x8)), (9, (.int .i64 x9))], [.arr ((x5).map (.int .i64))], [false]⟩ (rowI .i64 r)) := by
  induction k using Nat.strongRecOn with
  | _ k ih =>
  refine ⟨?_, ?_, ?_, ?_, ?_, ?_⟩
  · intro x5 x6 x7 x8 h
    cases k with
    | zero => simp [zelligeref03_Gcd.l0] at h
    | succ k1 =>
    simp only [zelligeref03_Gcd.l0] at h
    simp only [Try.f44, atLoop, seek, firstR, reduceIte, Option.getD_some, Nat.reduceEqDiff]
    rcases ite_some h with ⟨c2, h⟩ | ⟨c2, h⟩
    · rcases ite_some h with ⟨c3, h⟩ | ⟨c3, h⟩
      · rcases ite_some h with ⟨c4, h⟩ | ⟨c4, h⟩
        · cases k1 with
          | zero => simp [zelligeref03_Gcd.j1] at h
          | succ k5 =>
          simp only [zelligeref03_Gcd.j1] at h
          rcases ite_some h with ⟨c6, h⟩ | ⟨c6, h⟩
          · obtain ⟨t7, e8, h⟩ := Option.bind_eq_some_iff.1 h
            have p9 := pick_of (fun k r h => zelligeref03_Half.mono _  k r h) e8
            obtain ⟨t10, e11, h⟩ := Option.bind_eq_some_iff.1 h
            have p12 := pick_of (fun k r h => zelligeref03_Half.mono _  k r h) e11
            simp (maxSteps := 2000000) (disch := (first | omega | (simp only [List.length_append, List.length_map, List.length_cons, List.length_nil, List.length_set, List.length_replicate, List.length_take, List.size_toArray]; omega))) [E44, c2, c3, c4, c6, p9, p12]
            refine AEnds.againS ((ih k5 (by omega)).1 _ _ _ _  h) ?_
            simp only [E44, firstR, mk_keep, keepT, List.find?, Nat.reduceBEq, Option.map_some, Option.getD_some]
            simp (maxSteps := 2000000) (disch := (first | omega | (simp only [List.length_append, List.length_map, List.length_cons, List.length_nil, List.length_set, List.length_replicate, List.length_take, List.size_toArray]; omega))) [E44, c2, c3, c4, c6, p9, p12]
            try omega
          · simp (maxSteps := 2000000) (disch := (first | omega | (simp only [List.length_append, List.length_map, List.length_cons, List.length_nil, List.length_set, List.length_replicate, List.length_take, List.size_toArray]; omega))) [E44, c2, c3, c4, c6]
            refine AEnds.loopS ((ih k5 (by omega)).2.1 _ _ _ _  h) ?_
            simp only [E44, firstR, mk_keep, keepT, List.find?, Nat.reduceBEq, Option.map_some, Option.getD_some]
            simp (maxSteps := 2000000) (disch := (first | omega | (simp only [List.length_append, List.length_map, List.length_cons, List.length_nil, List.length_set, List.length_replicate, List.length_take, List.size_toArray]; omega))) [E44, c2, c3, c4, c6]
            try omega
        · cases h
      · cases k1 with
        | zero => simp [zelligeref03_Gcd.j1] at h
        | succ k13 =>
        simp only [zelligeref03_Gcd.j1] at h
        rcases ite_some h with ⟨c14, h⟩ | ⟨c14, h⟩
        · simp at c14
        · simp (maxSteps := 2000000) (disch := (first | omega | (simp only [List.length_append, List.length_map, List.length_cons, List.length_nil, List.length_set, List.length_replicate, List.length_take, List.size_toArray]; omega))) [E44, c2, c3]
          refine AEnds.loopS ((ih k13 (by omega)).2.1 _ _ _ _  h) ?_
          simp only [E44, firstR, mk_keep, keepT, List.find?, Nat.reduceBEq, Option.map_some, Option.getD_some]
          simp (maxSteps := 2000000) (disch := (first | omega | (simp only [List.length_append, List.length_map, List.length_cons, List.length_nil, List.length_set, List.length_replicate, List.length_take, List.size_toArray]; omega))) [E44, c2, c3]
          try omega
    · cases h
  · intro x5 x6 x7 x8 h
    cases k with
    | zero => simp [zelligeref03_Gcd.l1] at h
    | succ k15 =>
    simp only [zelligeref03_Gcd.l1] at h
    simp only [Try.f44, atLoop, seek, firstR, reduceIte, Option.getD_some, Nat.reduceEqDiff]
    rcases ite_some h with ⟨c16, h⟩ | ⟨c16, h⟩
    · simp (maxSteps := 2000000) (disch := (first | omega | (simp only [List.length_append, List.length_map, List.length_cons, List.length_nil, List.length_set, List.length_replicate, List.length_take, List.size_toArray]; omega))) [E44, c16]
      refine AEnds.loopS ((ih k15 (by omega)).2.2.1 _ _ _ _  h) ?_
      simp only [E44, firstR, mk_keep, keepT, List.find?, Nat.reduceBEq, Option.map_some, Option.getD_some]
      simp (maxSteps := 2000000) (disch := (first | omega | (simp only [List.length_append, List.length_map, List.length_cons, List.length_nil, List.length_set, List.length_replicate, List.length_take, List.size_toArray]; omega))) [E44, c16]
      try omega
    · simp (maxSteps := 2000000) (disch := (first | omega | (simp only [List.length_append, List.length_map, List.length_cons, List.length_nil, List.length_set, List.length_replicate, List.length_take, List.size_toArray]; omega))) [E44, c16]
      refine AEnds.loopS ((ih k15 (by omega)).2.2.2.2.2 _ _ _ _  h) ?_
      simp only [E44, firstR, mk_keep, keepT, List.find?, Nat.reduceBEq, Option.map_some, Option.getD_some]
      simp (maxSteps := 2000000) (disch := (first | omega | (simp only [List.length_append, List.length_map, List.length_cons, List.length_nil, List.length_set, List.length_replicate, List.length_take, List.size_toArray]; omega))) [E44, c16]
      try omega
  · intro x5 x6 x7 x8 h
    cases k with
    | zero => simp [zelligeref03_Gcd.l2] at h
    | succ k17 =>
    simp only [zelligeref03_Gcd.l2] at h
    simp only [Try.f44, atLoop, seek, firstR, reduceIte, Option.getD_some, Nat.reduceEqDiff]
    rcases ite_some h with ⟨c18, h⟩ | ⟨c18, h⟩
    · rcases ite_some h with ⟨c19, h⟩ | ⟨c19, h⟩
      · obtain ⟨t20, e21, h⟩ := Option.bind_eq_some_iff.1 h
        have p22 := pick_of (fun k r h => zelligeref03_Half.mono _  k r h) e21
        simp (maxSteps := 2000000) (disch := (first | omega | (simp only [List.length_append, List.length_map, List.length_cons, List.length_nil, List.length_set, List.length_replicate, List.length_take, List.size_toArray]; omega))) [E44, c18, c19, p22]
        refine AEnds.againS ((ih k17 (by omega)).2.2.1 _ _ _ _  h) ?_
        simp only [E44, firstR, mk_keep, keepT, List.find?, Nat.reduceBEq, Option.map_some, Option.getD_some]
        simp (maxSteps := 2000000) (disch := (first | omega | (simp only [List.length_append, List.length_map, List.length_cons, List.length_nil, List.length_set, List.length_replicate, List.length_take, List.size_toArray]; omega))) [E44, c18, c19, p22]
        try omega
      · simp (maxSteps := 2000000) (disch := (first | omega | (simp only [List.length_append, List.length_map, List.length_cons, List.length_nil, List.length_set, List.length_replicate, List.length_take, List.size_toArray]; omega))) [E44, c18, c19]
        refine AEnds.loopS ((ih k17 (by omega)).2.2.2.1 _ _ _ _  h) ?_
        simp only [E44, firstR, mk_keep, keepT, List.find?, Nat.reduceBEq, Option.map_some, Option.getD_some]
        simp (maxSteps := 2000000) (disch := (first | omega | (simp only [List.length_append, List.length_map, List.length_cons, List.length_nil, List.length_set, List.length_replicate, List.length_take, List.size_toArray]; omega))) [E44, c18, c19]
        try omega
    · cases h
  · intro x5 x6 x7 x8 h
    cases k with
    | zero => simp [zelligeref03_Gcd.l3] at h
    | succ k23 =>
    simp only [zelligeref03_Gcd.l3] at h
    simp only [Try.f44, atLoop, seek, firstR, reduceIte, Option.getD_some, Nat.reduceEqDiff]
    rcases ite_some h with ⟨c24, h⟩ | ⟨c24, h⟩
    · rcases ite_some h with ⟨c25, h⟩ | ⟨c25, h⟩
      · obtain ⟨t26, e27, h⟩ := Option.bind_eq_some_iff.1 h
        have p28 := pick_of (fun k r h => zelligeref03_Half.mono _  k r h) e27
        simp (maxSteps := 2000000) (disch := (first | omega | (simp only [List.length_append, List.length_map, List.length_cons, List.length_nil, List.length_set, List.length_replicate, List.length_take, List.size_toArray]; omega))) [E44, c24, c25, p28]
        refine AEnds.againS ((ih k23 (by omega)).2.2.2.1 _ _ _ _  h) ?_
        simp only [E44, firstR, mk_keep, keepT, List.find?, Nat.reduceBEq, Option.map_some, Option.getD_some]
        simp (maxSteps := 2000000) (disch := (first | omega | (simp only [List.length_append, List.length_map, List.length_cons, List.length_nil, List.length_set, List.length_replicate, List.length_take, List.size_toArray]; omega))) [E44, c24, c25, p28]
        try omega
      · obtain ⟨t29, e30, h⟩ := Option.bind_eq_some_iff.1 h
        have p31 := pick_of (fun k r h => zelligeref03_Cmp.mono _ _  k r h) e30
        rcases ite_some h with ⟨c32, h⟩ | ⟨c32, h⟩
        · obtain ⟨t33, e34, h⟩ := Option.bind_eq_some_iff.1 h
          have p35 := pick_of (fun k r h => zelligeref03_Sub.mono _ _  k r h) e34
          simp (maxSteps := 2000000) (disch := (first | omega | (simp only [List.length_append, List.length_map, List.length_cons, List.length_nil, List.length_set, List.length_replicate, List.length_take, List.size_toArray]; omega))) [E44, c24, c25, p31, c32, p35]
          refine AEnds.againS ((ih k23 (by omega)).2.1 _ _ _ _  h) ?_
          simp only [E44, firstR, mk_keep, keepT, List.find?, Nat.reduceBEq, Option.map_some, Option.getD_some]
          simp (maxSteps := 2000000) (disch := (first | omega | (simp only [List.length_append, List.length_map, List.length_cons, List.length_nil, List.length_set, List.length_replicate, List.length_take, List.size_toArray]; omega))) [E44, c24, c25, p31, c32, p35]
          try omega
        · obtain ⟨t36, e37, h⟩ := Option.bind_eq_some_iff.1 h
          have p38 := pick_of (fun k r h => zelligeref03_Sub.mono _ _  k r h) e37
          simp (maxSteps := 2000000) (disch := (first | omega | (simp only [List.length_append, List.length_map, List.length_cons, List.length_nil, List.length_set, List.length_replicate, List.length_take, List.size_toArray]; omega))) [E44, c24, c25, p31, c32, p38]
          refine AEnds.againS ((ih k23 (by omega)).2.1 _ _ _ _  h) ?_
          simp only [E44, firstR, mk_keep, keepT, List.find?, Nat.reduceBEq, Option.map_some, Option.getD_some]
          simp (maxSteps := 2000000) (disch := (first | omega | (simp only [List.length_append, List.length_map, List.length_cons, List.length_nil, List.length_set, List.length_replicate, List.length_take, List.size_toArray]; omega))) [E44, c24, c25, p31, c32, p38]
          try omega
    · cases h
  · intro x5 x7 x8 x9 h
    cases k with
    | zero => simp [zelligeref03_Gcd.l4] at h
    | succ k39 =>
    simp only [zelligeref03_Gcd.l4] at h
    simp only [Try.f44, atLoop, seek, firstR, reduceIte, Option.getD_some, Nat.reduceEqDiff]
    rcases ite_some h with ⟨c40, h⟩ | ⟨c40, h⟩
    · obtain ⟨t41, e42, h⟩ := Option.bind_eq_some_iff.1 h
      have p43 := pick_of (fun k r h => zelligeref03_Add.mono _ _  k r h) e42
      simp (maxSteps := 2000000) (disch := (first | omega | (simp only [List.length_append, List.length_map, List.length_cons, List.length_nil, List.length_set, List.length_replicate, List.length_take, List.size_toArray]; omega))) [E44, c40, p43]
      refine AEnds.againS ((ih k39 (by omega)).2.2.2.2.1 _ _ _ _  h) ?_
      simp only [E44, firstR, mk_keep, keepT, List.find?, Nat.reduceBEq, Option.map_some, Option.getD_some]
      simp (maxSteps := 2000000) (disch := (first | omega | (simp only [List.length_append, List.length_map, List.length_cons, List.length_nil, List.length_set, List.length_replicate, List.length_take, List.size_toArray]; omega))) [E44, c40, p43]
      try omega
    · obtain ⟨t44, e45, h⟩ := Option.bind_eq_some_iff.1 h
      have p46 := pick_of (fun k r h => zelligeref03_Mul.mono _ _  k r h) e45
      obtain rfl := Option.some.inj h
      simp (maxSteps := 2000000) (disch := (first | omega | (simp only [List.length_append, List.length_map, List.length_cons, List.length_nil, List.length_set, List.length_replicate, List.length_take, List.size_toArray]; omega))) [E44, c40, p46]
      try omega
  · intro x5 x7 x8 x9 h
    cases k with
    | zero => simp [zelligeref03_Gcd.l4] at h
    | succ k47 =>
    simp only [zelligeref03_Gcd.l4] at h
    simp only [Try.f44, atLoop, seek, firstR, reduceIte, Option.getD_some, Nat.reduceEqDiff]
    rcases ite_some h with ⟨c48, h⟩ | ⟨c48, h⟩
    · obtain ⟨t49, e50, h⟩ := Option.bind_eq_some_iff.1 h
      have p51 := pick_of (fun k r h => zelligeref03_Add.mono _ _  k r h) e50
      simp (maxSteps := 2000000) (disch := (first | omega | (simp only [List.length_append, List.length_map, List.length_cons, List.length_nil, List.length_set, List.length_replicate, List.length_take, List.size_toArray]; omega))) [E44, c48, p51]
      refine AEnds.againS ((ih k47 (by omega)).2.2.2.2.1 _ _ _ _  h) ?_
      simp only [E44, firstR, mk_keep, keepT, List.find?, Nat.reduceBEq, Option.map_some, Option.getD_some]
      simp (maxSteps := 2000000) (disch := (first | omega | (simp only [List.length_append, List.length_map, List.length_cons, List.length_nil, List.length_set, List.length_replicate, List.length_take, List.size_toArray]; omega))) [E44, c48, p51]
      try omega
    · obtain ⟨t52, e53, h⟩ := Option.bind_eq_some_iff.1 h
      have p54 := pick_of (fun k r h => zelligeref03_Mul.mono _ _  k r h) e53
      obtain rfl := Option.some.inj h
      simp (maxSteps := 2000000) (disch := (first | omega | (simp only [List.length_append, List.length_map, List.length_cons, List.length_nil, List.length_set, List.length_replicate, List.length_take, List.size_toArray]; omega))) [E44, c48, p54]
      try omega
theorem n44_run (k : Nat) (l0 : List Int) (l1 : List Int) (r : (List Int)) (h : zelligeref03_Gcd.f k l0 l1 = some r) : AEnds E44 (finW Try.prog Try.f44.results) 0 [.code (Try.f44.body.getD .skip)] (startA Try.f44 [(rowI .i64 l0), (rowI .i64 l1)] [] []) (rowI .i64 r) := by
  unfold zelligeref03_Gcd.f at h
  simp only [Try.f44, Option.getD_some, startA]
  rcases ite_some h with ⟨c55, h⟩ | ⟨c55, h⟩
  · obtain rfl := Option.some.inj h
    simp (maxSteps := 2000000) (disch := (first | omega | (simp only [List.length_append, List.length_map, List.length_cons, List.length_nil, List.length_set, List.length_replicate, List.length_take, List.size_toArray]; omega))) [E44, c55]
    try omega
  · rcases ite_some h with ⟨c56, h⟩ | ⟨c56, h⟩
    · obtain rfl := Option.some.inj h
      simp (maxSteps := 2000000) (disch := (first | omega | (simp only [List.length_append, List.length_map, List.length_cons, List.length_nil, List.length_set, List.length_replicate, List.length_take, List.size_toArray]; omega))) [E44, c55, c56]
      try omega
    · simp (maxSteps := 2000000) (disch := (first | omega | (simp only [List.length_append, List.length_map, List.length_cons, List.length_nil, List.length_set, List.length_replicate, List.length_take, List.size_toArray]; omega))) [E44, c55, c56]
      refine AEnds.loopS ((n44_ls _ _).1 _ _ _ _  h) ?_
      simp only [E44, firstR, mk_keep, keepT, List.find?, Nat.reduceBEq, Option.map_some, Option.getD_some]
      simp (maxSteps := 2000000) (disch := (first | omega | (simp only [List.length_append, List.length_map, List.length_cons, List.length_nil, List.length_set, List.length_replicate, List.length_take, List.size_toArray]; omega))) [E44, c55, c56]
      try omega
theorem fit44 : Fits Try.prog E44.ref E44.dep Try.f44 = true := by kernel_rfl
theorem good44 : GoodV 44 := by
  intro xs r h
  simp only [SV] at h
  unfold SV44 at h
  split at h
  · obtain ⟨a0, h0, h⟩ := Option.bind_eq_some_iff.1 h
    obtain ⟨a1, h1, h⟩ := Option.bind_eq_some_iff.1 h
    obtain ⟨q, hq, rfl⟩ := Option.map_eq_some_iff.1 h
    obtain ⟨k, hk⟩ := of_pick hq
    obtain rfl := unI_eq h0
    obtain rfl := unI_eq h1
    exact okW_ends (mkE_ok (all_cons good31 (all_cons good32 (all_cons good63 (all_cons good64 (all_cons good65 all_nil))))) (all_cons goodR31 (all_cons goodR32 (all_cons goodR63 (all_cons goodR64 (all_cons goodR65 all_nil)))))) mixed Try.func44 rfl fit44 (n44_run k _ _  _ hk)
  · cases h
theorem goodR44 : GoodR 44 := fun _ _ _ _ _ _ h => by simp [SR] at h
end Go.Proofs.Ythkiklpcglogpaa.ZRat
namespace Go.Proofs.Ythkiklpcglogpaa.ZRat
open Go.RowKit Go.Proofs.Ythkiklpcglogpaa.Wd
open Go Go.Proofs.Ythkiklpcglogpaa.Ab Go.Proofs
set_option linter.unusedSimpArgs false
set_option linter.unusedVariables false
set_option maxHeartbeats 4000000
set_option maxRecDepth 10000
noncomputable def E39 : Env := mkE [] [41] [] []
theorem n39_run (k : Nat) (a0 : Bool) (l1 : List Int) (r : (Bool × List Int)) (h : whole_norm.f k a0 l1 = some r) : AEnds E39 (finW Try.prog Try.f39.results) 0 [.code (Try.f39.body.getD .skip)] (startA Try.f39 [(.bool a0), (rowI .u32 l1)] [] []) (.agg [(.bool r.1), (rowI .u32 r.2)]) := by
  unfold whole_norm.f at h
  simp only [Try.f39, Option.getD_some, startA]
  obtain ⟨t1, e2, h⟩ := Option.bind_eq_some_iff.1 h
  have p3 := pick_of (fun k r h => nat_Trim.mono _  k r h) e2
  rcases ite_some h with ⟨c4, h⟩ | ⟨c4, h⟩
  · obtain rfl := Option.some.inj h
    simp (maxSteps := 2000000) (disch := (first | omega | (simp only [List.length_append, List.length_map, List.length_cons, List.length_nil, List.length_set, List.length_replicate, List.length_take, List.size_toArray]; omega))) [E39, p3, c4]
    try omega
  · obtain rfl := Option.some.inj h
    simp (maxSteps := 2000000) (disch := (first | omega | (simp only [List.length_append, List.length_map, List.length_cons, List.length_nil, List.length_set, List.length_replicate, List.length_take, List.size_toArray]; omega))) [E39, p3, c4]
    try omega
theorem fit39 : Fits Try.prog E39.ref E39.dep Try.f39 = true := by kernel_rfl
theorem good39 : GoodV 39 := by
  intro xs r h
  simp only [SV] at h
  unfold SV39 at h
  split at h
  · obtain ⟨a0, h0, h⟩ := Option.bind_eq_some_iff.1 h
    obtain ⟨a1, h1, h⟩ := Option.bind_eq_some_iff.1 h
    obtain ⟨q, hq, rfl⟩ := Option.map_eq_some_iff.1 h
    obtain ⟨k, hk⟩ := of_pick hq
    obtain rfl := unB_eq h0
    obtain rfl := unI_eq h1
    exact okW_ends (mkE_ok (all_cons good41 all_nil) (all_cons goodR41 all_nil)) mixed Try.func39 rfl fit39 (n39_run k _ _  _ hk)
  · cases h
theorem goodR39 : GoodR 39 := fun _ _ _ _ _ _ h => by simp [SR] at h
end Go.Proofs.Ythkiklpcglogpaa.ZRat
namespace Go.Proofs.Ythkiklpcglogpaa.ZRat
open Go.RowKit Go.Proofs.Ythkiklpcglogpaa.Wd
open Go Go.Proofs.Ythkiklpcglogpaa.Ab Go.Proofs
set_option linter.unusedSimpArgs false
set_option linter.unusedVariables false
set_option maxHeartbeats 4000000
set_option maxRecDepth 10000
noncomputable def E40 : Env := mkE [] [39] [] []
theorem n40_run (k : Nat) (a0_0 : Bool) (l0_1 : List Int) (r : (Bool × List Int)) (h : whole_Norm.f k a0_0 l0_1 = some r) : AEnds E40 (finW Try.prog Try.f40.results) 0 [.code (Try.f40.body.getD .skip)] (startA Try.f40 [(.agg [(.bool a0_0), (rowI .u32 l0_1)])] [] []) (.agg [(.bool r.1), (rowI .u32 r.2)]) := by
  unfold whole_Norm.f at h
  simp only [Try.f40, Option.getD_some, startA]
  obtain ⟨t1, e2, h⟩ := Option.bind_eq_some_iff.1 h
  have p3 := pick_of (fun k r h => whole_norm.mono _ _  k r h) e2
  obtain rfl := Option.some.inj h
  simp (maxSteps := 2000000) (disch := (first | omega | (simp only [List.length_append, List.length_map, List.length_cons, List.length_nil, List.length_set, List.length_replicate, List.length_take, List.size_toArray]; omega))) [E40, p3]
  try omega
theorem fit40 : Fits Try.prog E40.ref E40.dep Try.f40 = true := by kernel_rfl
theorem good40 : GoodV 40 := by
  intro xs r h
  simp only [SV] at h
  unfold SV40 at h
  split at h
  · obtain ⟨a0, h0, h⟩ := Option.bind_eq_some_iff.1 h
    obtain ⟨a1, h1, h⟩ := Option.bind_eq_some_iff.1 h
    obtain ⟨q, hq, rfl⟩ := Option.map_eq_some_iff.1 h
    obtain ⟨k, hk⟩ := of_pick hq
    obtain rfl := unB_eq h0
    obtain rfl := unI_eq h1
    exact okW_ends (mkE_ok (all_cons good39 all_nil) (all_cons goodR39 all_nil)) mixed Try.func40 rfl fit40 (n40_run k _ _  _ hk)
  · cases h
theorem goodR40 : GoodR 40 := fun _ _ _ _ _ _ h => by simp [SR] at h
end Go.Proofs.Ythkiklpcglogpaa.ZRat
namespace Go.Proofs.Ythkiklpcglogpaa.ZRat
open Go.RowKit Go.Proofs.Ythkiklpcglogpaa.Wd
open Go Go.Proofs.Ythkiklpcglogpaa.Ab Go.Proofs
set_option linter.unusedSimpArgs false
set_option linter.unusedVariables false
set_option maxHeartbeats 4000000
set_option maxRecDepth 10000
noncomputable def E69 : Env := mkE [] [39, 54, 80] [] []
theorem n69_run (k : Nat) (a0_0 : Bool) (l0_1 : List Int) (a1_0 : Bool) (l1_1 : List Int) (r : (Bool × List Int)) (h : whole_add.f k a0_0 l0_1 a1_0 l1_1 = some r) : AEnds E69 (finW Try.prog Try.f69.results) 0 [.code (Try.f69.body.getD .skip)] (startA Try.f69 [(.agg [(.bool a0_0), (rowI .u32 l0_1)]), (.agg [(.bool a1_0), (rowI .u32 l1_1)])] [] []) (.agg [(.bool r.1), (rowI .u32 r.2)]) := by
  unfold whole_add.f at h
  simp only [Try.f69, Option.getD_some, startA]
  rcases ite_some h with ⟨c1, h⟩ | ⟨c1, h⟩
  · obtain ⟨t2, e3, h⟩ := Option.bind_eq_some_iff.1 h
    have p4 := pick_of (fun k r h => nat_Add.mono _ _  k r h) e3
    obtain ⟨t5, e6, h⟩ := Option.bind_eq_some_iff.1 h
    have p7 := pick_of (fun k r h => whole_norm.mono _ _  k r h) e6
    obtain rfl := Option.some.inj h
    simp (maxSteps := 2000000) (disch := (first | omega | (simp only [List.length_append, List.length_map, List.length_cons, List.length_nil, List.length_set, List.length_replicate, List.length_take, List.size_toArray]; omega))) [E69, c1, p4, p7]
    try omega
  · obtain ⟨t8, e9, h⟩ := Option.bind_eq_some_iff.1 h
    have p10 := pick_of (fun k r h => nat_Sub.mono _ _  k r h) e9
    rcases ite_some h with ⟨c11, h⟩ | ⟨c11, h⟩
    · obtain ⟨t12, e13, h⟩ := Option.bind_eq_some_iff.1 h
      have p14 := pick_of (fun k r h => whole_norm.mono _ _  k r h) e13
      obtain rfl := Option.some.inj h
      simp (maxSteps := 2000000) (disch := (first | omega | (simp only [List.length_append, List.length_map, List.length_cons, List.length_nil, List.length_set, List.length_replicate, List.length_take, List.size_toArray]; omega))) [E69, c1, p10, c11, p14]
      try omega
    · obtain ⟨t15, e16, h⟩ := Option.bind_eq_some_iff.1 h
      have p17 := pick_of (fun k r h => nat_Sub.mono _ _  k r h) e16
      obtain ⟨t18, e19, h⟩ := Option.bind_eq_some_iff.1 h
      have p20 := pick_of (fun k r h => whole_norm.mono _ _  k r h) e19
      obtain rfl := Option.some.inj h
      simp (maxSteps := 2000000) (disch := (first | omega | (simp only [List.length_append, List.length_map, List.length_cons, List.length_nil, List.length_set, List.length_replicate, List.length_take, List.size_toArray]; omega))) [E69, c1, p10, c11, p17, p20]
      try omega
theorem fit69 : Fits Try.prog E69.ref E69.dep Try.f69 = true := by kernel_rfl
theorem good69 : GoodV 69 := by
  intro xs r h
  simp only [SV] at h
  unfold SV69 at h
  split at h
  · obtain ⟨a0, h0, h⟩ := Option.bind_eq_some_iff.1 h
    obtain ⟨a1, h1, h⟩ := Option.bind_eq_some_iff.1 h
    obtain ⟨a2, h2, h⟩ := Option.bind_eq_some_iff.1 h
    obtain ⟨a3, h3, h⟩ := Option.bind_eq_some_iff.1 h
    obtain ⟨q, hq, rfl⟩ := Option.map_eq_some_iff.1 h
    obtain ⟨k, hk⟩ := of_pick hq
    obtain rfl := unB_eq h0
    obtain rfl := unI_eq h1
    obtain rfl := unB_eq h2
    obtain rfl := unI_eq h3
    exact okW_ends (mkE_ok (all_cons good39 (all_cons good54 (all_cons good80 all_nil))) (all_cons goodR39 (all_cons goodR54 (all_cons goodR80 all_nil)))) mixed Try.func69 rfl fit69 (n69_run k _ _ _ _  _ hk)
  · cases h
theorem goodR69 : GoodR 69 := fun _ _ _ _ _ _ h => by simp [SR] at h
end Go.Proofs.Ythkiklpcglogpaa.ZRat
namespace Go.Proofs.Ythkiklpcglogpaa.ZRat
open Go.RowKit Go.Proofs.Ythkiklpcglogpaa.Wd
open Go Go.Proofs.Ythkiklpcglogpaa.Ab Go.Proofs
set_option linter.unusedSimpArgs false
set_option linter.unusedVariables false
set_option maxHeartbeats 4000000
set_option maxRecDepth 10000
noncomputable def E51 : Env := mkE [] [69] [] []
theorem n51_run (k : Nat) (a0_0 : Bool) (l0_1 : List Int) (a1_0 : Bool) (l1_1 : List Int) (r : (Bool × List Int)) (h : whole_Add.f k a0_0 l0_1 a1_0 l1_1 = some r) : AEnds E51 (finW Try.prog Try.f51.results) 0 [.code (Try.f51.body.getD .skip)] (startA Try.f51 [(.agg [(.bool a0_0), (rowI .u32 l0_1)]), (.agg [(.bool a1_0), (rowI .u32 l1_1)])] [] []) (.agg [(.bool r.1), (rowI .u32 r.2)]) := by
  unfold whole_Add.f at h
  simp only [Try.f51, Option.getD_some, startA]
  obtain ⟨t1, e2, h⟩ := Option.bind_eq_some_iff.1 h
  have p3 := pick_of (fun k r h => whole_add.mono _ _ _ _  k r h) e2
  obtain rfl := Option.some.inj h
  simp (maxSteps := 2000000) (disch := (first | omega | (simp only [List.length_append, List.length_map, List.length_cons, List.length_nil, List.length_set, List.length_replicate, List.length_take, List.size_toArray]; omega))) [E51, p3]
  try omega
theorem fit51 : Fits Try.prog E51.ref E51.dep Try.f51 = true := by kernel_rfl
theorem good51 : GoodV 51 := by
  intro xs r h
  simp only [SV] at h
  unfold SV51 at h
  split at h
  · obtain ⟨a0, h0, h⟩ := Option.bind_eq_some_iff.1 h
    obtain ⟨a1, h1, h⟩ := Option.bind_eq_some_iff.1 h
    obtain ⟨a2, h2, h⟩ := Option.bind_eq_some_iff.1 h
    obtain ⟨a3, h3, h⟩ := Option.bind_eq_some_iff.1 h
    obtain ⟨q, hq, rfl⟩ := Option.map_eq_some_iff.1 h
    obtain ⟨k, hk⟩ := of_pick hq
    obtain rfl := unB_eq h0
    obtain rfl := unI_eq h1
    obtain rfl := unB_eq h2
    obtain rfl := unI_eq h3
    exact okW_ends (mkE_ok (all_cons good69 all_nil) (all_cons goodR69 all_nil)) mixed Try.func51 rfl fit51 (n51_run k _ _ _ _  _ hk)
  · cases h
theorem goodR51 : GoodR 51 := fun _ _ _ _ _ _ h => by simp [SR] at h
end Go.Proofs.Ythkiklpcglogpaa.ZRat
namespace Go.Proofs.Ythkiklpcglogpaa.ZRat
open Go.RowKit Go.Proofs.Ythkiklpcglogpaa.Wd
open Go Go.Proofs.Ythkiklpcglogpaa.Ab Go.Proofs
set_option linter.unusedSimpArgs false
set_option linter.unusedVariables false
set_option maxHeartbeats 4000000
set_option maxRecDepth 10000
noncomputable def E68 : Env := mkE [] [39] [] []
theorem n68_run (k : Nat) (a0_0 : Bool) (l0_1 : List Int) (r : (Bool × List Int)) (h : whole_neg.f k a0_0 l0_1 = some r) : AEnds E68 (finW Try.prog Try.f68.results) 0 [.code (Try.f68.body.getD .skip)] (startA Try.f68 [(.agg [(.bool a0_0), (rowI .u32 l0_1)])] [] []) (.agg [(.bool r.1), (rowI .u32 r.2)]) := by
  unfold whole_neg.f at h
  simp only [Try.f68, Option.getD_some, startA]
  obtain ⟨t1, e2, h⟩ := Option.bind_eq_some_iff.1 h
  have p3 := pick_of (fun k r h => whole_norm.mono _ _  k r h) e2
  obtain rfl := Option.some.inj h
  simp (maxSteps := 2000000) (disch := (first | omega | (simp only [List.length_append, List.length_map, List.length_cons, List.length_nil, List.length_set, List.length_replicate, List.length_take, List.size_toArray]; omega))) [E68, p3]
  try omega
theorem fit68 : Fits Try.prog E68.ref E68.dep Try.f68 = true := by kernel_rfl
theorem good68 : GoodV 68 := by
  intro xs r h
  simp only [SV] at h
  unfold SV68 at h
  split at h
  · obtain ⟨a0, h0, h⟩ := Option.bind_eq_some_iff.1 h
    obtain ⟨a1, h1, h⟩ := Option.bind_eq_some_iff.1 h
    obtain ⟨q, hq, rfl⟩ := Option.map_eq_some_iff.1 h
    obtain ⟨k, hk⟩ := of_pick hq
    obtain rfl := unB_eq h0
    obtain rfl := unI_eq h1
    exact okW_ends (mkE_ok (all_cons good39 all_nil) (all_cons goodR39 all_nil)) mixed Try.func68 rfl fit68 (n68_run k _ _  _ hk)
  · cases h
theorem goodR68 : GoodR 68 := fun _ _ _ _ _ _ h => by simp [SR] at h
end Go.Proofs.Ythkiklpcglogpaa.ZRat
namespace Go.Proofs.Ythkiklpcglogpaa.ZRat
open Go.RowKit Go.Proofs.Ythkiklpcglogpaa.Wd
open Go Go.Proofs.Ythkiklpcglogpaa.Ab Go.Proofs
set_option linter.unusedSimpArgs false
set_option linter.unusedVariables false
set_option maxHeartbeats 4000000
set_option maxRecDepth 10000
noncomputable def E50 : Env := mkE [] [68] [] []
theorem n50_run (k : Nat) (a0_0 : Bool) (l0_1 : List Int) (r : (Bool × List Int)) (h : whole_Neg.f k a0_0 l0_1 = some r) : AEnds E50 (finW Try.prog Try.f50.results) 0 [.code (Try.f50.body.getD .skip)] (startA Try.f50 [(.agg [(.bool a0_0), (rowI .u32 l0_1)])] [] []) (.agg [(.bool r.1), (rowI .u32 r.2)]) := by
  unfold whole_Neg.f at h
  simp only [Try.f50, Option.getD_some, startA]
  obtain ⟨t1, e2, h⟩ := Option.bind_eq_some_iff.1 h
  have p3 := pick_of (fun k r h => whole_neg.mono _ _  k r h) e2
  obtain rfl := Option.some.inj h
  simp (maxSteps := 2000000) (disch := (first | omega | (simp only [List.length_append, List.length_map, List.length_cons, List.length_nil, List.length_set, List.length_replicate, List.length_take, List.size_toArray]; omega))) [E50, p3]
  try omega
theorem fit50 : Fits Try.prog E50.ref E50.dep Try.f50 = true := by kernel_rfl
theorem good50 : GoodV 50 := by
  intro xs r h
  simp only [SV] at h
  unfold SV50 at h
  split at h
  · obtain ⟨a0, h0, h⟩ := Option.bind_eq_some_iff.1 h
    obtain ⟨a1, h1, h⟩ := Option.bind_eq_some_iff.1 h
    obtain ⟨q, hq, rfl⟩ := Option.map_eq_some_iff.1 h
    obtain ⟨k, hk⟩ := of_pick hq
    obtain rfl := unB_eq h0
    obtain rfl := unI_eq h1
    exact okW_ends (mkE_ok (all_cons good68 all_nil) (all_cons goodR68 all_nil)) mixed Try.func50 rfl fit50 (n50_run k _ _  _ hk)
  · cases h
theorem goodR50 : GoodR 50 := fun _ _ _ _ _ _ h => by simp [SR] at h
end Go.Proofs.Ythkiklpcglogpaa.ZRat
namespace Go.Proofs.Ythkiklpcglogpaa.ZRat
open Go.RowKit Go.Proofs.Ythkiklpcglogpaa.Wd
open Go Go.Proofs.Ythkiklpcglogpaa.Ab Go.Proofs
set_option linter.unusedSimpArgs false
set_option linter.unusedVariables false
set_option maxHeartbeats 4000000
set_option maxRecDepth 10000
noncomputable def E55 : Env := mkE [] [70] [] []
theorem n55_run (k : Nat) (a0_0 : Bool) (l0_1 : List Int) (r : (Int)) (h : whole_sign.f k a0_0 l0_1 = some r) : AEnds E55 (finW Try.prog Try.f55.results) 0 [.code (Try.f55.body.getD .skip)] (startA Try.f55 [(.agg [(.bool a0_0), (rowI .u32 l0_1)])] [] []) (.int .i64 r) := by
  unfold whole_sign.f at h
  simp only [Try.f55, Option.getD_some, startA]
  obtain ⟨t1, e2, h⟩ := Option.bind_eq_some_iff.1 h
  have p3 := pick_of (fun k r h => nat_Bits.mono _  k r h) e2
  rcases ite_some h with ⟨c4, h⟩ | ⟨c4, h⟩
  · obtain rfl := Option.some.inj h
    simp (maxSteps := 2000000) (disch := (first | omega | (simp only [List.length_append, List.length_map, List.length_cons, List.length_nil, List.length_set, List.length_replicate, List.length_take, List.size_toArray]; omega))) [E55, p3, c4]
    try omega
  · rcases ite_some h with ⟨c5, h⟩ | ⟨c5, h⟩
    · obtain rfl := Option.some.inj h
      simp (maxSteps := 2000000) (disch := (first | omega | (simp only [List.length_append, List.length_map, List.length_cons, List.length_nil, List.length_set, List.length_replicate, List.length_take, List.size_toArray]; omega))) [E55, p3, c4, c5]
      try omega
    · obtain rfl := Option.some.inj h
      simp (maxSteps := 2000000) (disch := (first | omega | (simp only [List.length_append, List.length_map, List.length_cons, List.length_nil, List.length_set, List.length_replicate, List.length_take, List.size_toArray]; omega))) [E55, p3, c4, c5]
      try omega
theorem fit55 : Fits Try.prog E55.ref E55.dep Try.f55 = true := by kernel_rfl
theorem good55 : GoodV 55 := by
  intro xs r h
  simp only [SV] at h
  unfold SV55 at h
  split at h
  · obtain ⟨a0, h0, h⟩ := Option.bind_eq_some_iff.1 h
    obtain ⟨a1, h1, h⟩ := Option.bind_eq_some_iff.1 h
    obtain ⟨q, hq, rfl⟩ := Option.map_eq_some_iff.1 h
    obtain ⟨k, hk⟩ := of_pick hq
    obtain rfl := unB_eq h0
    obtain rfl := unI_eq h1
    exact okW_ends (mkE_ok (all_cons good70 all_nil) (all_cons goodR70 all_nil)) mixed Try.func55 rfl fit55 (n55_run k _ _  _ hk)
  · cases h
theorem goodR55 : GoodR 55 := fun _ _ _ _ _ _ h => by simp [SR] at h
end Go.Proofs.Ythkiklpcglogpaa.ZRat
namespace Go.Proofs.Ythkiklpcglogpaa.ZRat
open Go.RowKit Go.Proofs.Ythkiklpcglogpaa.Wd
open Go Go.Proofs.Ythkiklpcglogpaa.Ab Go.Proofs
set_option linter.unusedSimpArgs false
set_option linter.unusedVariables false
set_option maxHeartbeats 4000000
set_option maxRecDepth 10000
noncomputable def E49 : Env := mkE [] [55] [] []
theorem n49_run (k : Nat) (a0_0 : Bool) (l0_1 : List Int) (r : (Int)) (h : whole_Sign.f k a0_0 l0_1 = some r) : AEnds E49 (finW Try.prog Try.f49.results) 0 [.code (Try.f49.body.getD .skip)] (startA Try.f49 [(.agg [(.bool a0_0), (rowI .u32 l0_1)])] [] []) (.int .i64 r) := by
  unfold whole_Sign.f at h
  simp only [Try.f49, Option.getD_some, startA]
  obtain ⟨t1, e2, h⟩ := Option.bind_eq_some_iff.1 h
  have p3 := pick_of (fun k r h => whole_sign.mono _ _  k r h) e2
  obtain rfl := Option.some.inj h
  simp (maxSteps := 2000000) (disch := (first | omega | (simp only [List.length_append, List.length_map, List.length_cons, List.length_nil, List.length_set, List.length_replicate, List.length_take, List.size_toArray]; omega))) [E49, p3]
  try omega
theorem fit49 : Fits Try.prog E49.ref E49.dep Try.f49 = true := by kernel_rfl
theorem good49 : GoodV 49 := by
  intro xs r h
  simp only [SV] at h
  unfold SV49 at h
  split at h
  · obtain ⟨a0, h0, h⟩ := Option.bind_eq_some_iff.1 h
    obtain ⟨a1, h1, h⟩ := Option.bind_eq_some_iff.1 h
    obtain ⟨q, hq, rfl⟩ := Option.map_eq_some_iff.1 h
    obtain ⟨k, hk⟩ := of_pick hq
    obtain rfl := unB_eq h0
    obtain rfl := unI_eq h1
    exact okW_ends (mkE_ok (all_cons good55 all_nil) (all_cons goodR55 all_nil)) mixed Try.func49 rfl fit49 (n49_run k _ _  _ hk)
  · cases h
theorem goodR49 : GoodR 49 := fun _ _ _ _ _ _ h => by simp [SR] at h
end Go.Proofs.Ythkiklpcglogpaa.ZRat
namespace Go.Proofs.Ythkiklpcglogpaa.ZRat
open Go.RowKit Go.Proofs.Ythkiklpcglogpaa.Wd
open Go Go.Proofs.Ythkiklpcglogpaa.Ab Go.Proofs
set_option linter.unusedSimpArgs false
set_option linter.unusedVariables false
set_option maxHeartbeats 4000000
set_option maxRecDepth 10000
noncomputable def E34 : Env := mkE [] [36, 55] [] []
theorem n34_run (k : Nat) (a0_0 : Bool) (l0_1 : List Int) (r : (ByteArray)) (h : whole_Show.f k a0_0 l0_1 = some r) : AEnds E34 (finW Try.prog Try.f34.results) 0 [.code (Try.f34.body.getD .skip)] (startA Try.f34 [(.agg [(.bool a0_0), (rowI .u32 l0_1)])] [] []) (.str r) := by
  unfold whole_Show.f at h
  simp only [Try.f34, Option.getD_some, startA]
  obtain ⟨t1, e2, h⟩ := Option.bind_eq_some_iff.1 h
  have p3 := pick_of (fun k r h => whole_sign.mono _ _  k r h) e2
  rcases ite_some h with ⟨c4, h⟩ | ⟨c4, h⟩
  · obtain ⟨t5, e6, h⟩ := Option.bind_eq_some_iff.1 h
    have p7 := pick_of (fun k r h => nat_Show.mono _  k r h) e6
    rcases ite_some h with ⟨c8, h⟩ | ⟨c8, h⟩
    · obtain rfl := Option.some.inj h
      simp (maxSteps := 2000000) (disch := (first | omega | (simp only [List.length_append, List.length_map, List.length_cons, List.length_nil, List.length_set, List.length_replicate, List.length_take, List.size_toArray]; omega))) [E34, p3, c4, p7, c8]
      try omega
    · cases h
  · obtain ⟨t9, e10, h⟩ := Option.bind_eq_some_iff.1 h
    have p11 := pick_of (fun k r h => nat_Show.mono _  k r h) e10
    obtain rfl := Option.some.inj h
    simp (maxSteps := 2000000) (disch := (first | omega | (simp only [List.length_append, List.length_map, List.length_cons, List.length_nil, List.length_set, List.length_replicate, List.length_take, List.size_toArray]; omega))) [E34, p3, c4, p11]
    try omega
theorem fit34 : Fits Try.prog E34.ref E34.dep Try.f34 = true := by kernel_rfl
theorem good34 : GoodV 34 := by
  intro xs r h
  simp only [SV] at h
  unfold SV34 at h
  split at h
  · obtain ⟨a0, h0, h⟩ := Option.bind_eq_some_iff.1 h
    obtain ⟨a1, h1, h⟩ := Option.bind_eq_some_iff.1 h
    obtain ⟨q, hq, rfl⟩ := Option.map_eq_some_iff.1 h
    obtain ⟨k, hk⟩ := of_pick hq
    obtain rfl := unB_eq h0
    obtain rfl := unI_eq h1
    exact okW_ends (mkE_ok (all_cons good36 (all_cons good55 all_nil)) (all_cons goodR36 (all_cons goodR55 all_nil))) mixed Try.func34 rfl fit34 (n34_run k _ _  _ hk)
  · cases h
theorem goodR34 : GoodR 34 := fun _ _ _ _ _ _ h => by simp [SR] at h
end Go.Proofs.Ythkiklpcglogpaa.ZRat
namespace Go.Proofs.Ythkiklpcglogpaa.ZRat
open Go.RowKit Go.Proofs.Ythkiklpcglogpaa.Wd
open Go Go.Proofs.Ythkiklpcglogpaa.Ab Go.Proofs
set_option linter.unusedSimpArgs false
set_option linter.unusedVariables false
set_option maxHeartbeats 4000000
set_option maxRecDepth 10000
noncomputable def E53 : Env := mkE [] [39, 43, 69] [] [(4, [([], [], false), ([], [], false), ([], [], false), ([], [], false), ([], [], false), ([], [], false), ([], [], false), ([], [], false), ([], [], false), ([], [], false), ([], [], false), ([], [], false), ([], [], false), ([0, 1], [], false), ([0, 1], [], false)]), (6, [([], [], false), ([], [], false), ([0], [], false), ([0], [], false), ([], [], false), ([], [], false), ([0], [], false), ([0], [], false), ([0], [], false)]), (7, [([], [], false), ([], [], true), ([], [1], false), ([], [], false), ([], [], false)])]
theorem n53_run (k : Nat) (a0_0 : Bool) (l0_1 : List Int) (a1_0 : Bool) (l1_1 : List Int) (r : (Bool × List Int × Bool × List Int × Int)) (h : whole_Floor.f k a0_0 l0_1 a1_0 l1_1 = some r) : AEnds E53 (finW Try.prog Try.f53.results) 0 [.code (Try.f53.body.getD .skip)] (startA Try.f53 [(.agg [(.bool a0_0), (rowI .u32 l0_1)]), (.agg [(.bool a1_0), (rowI .u32 l1_1)])] [] []) (.tup [(.agg [(.bool r.1), (rowI .u32 r.2.1)]), (.agg [(.bool r.2.2.1), (rowI .u32 r.2.2.2.1)]), (.int .i64 r.2.2.2.2)]) := by
  unfold whole_Floor.f at h
  simp only [Try.f53, Option.getD_some, startA]
  obtain ⟨t1, e2, h⟩ := Option.bind_eq_some_iff.1 h
  have p3 := pick_of (fun k r h => nat_DivMod.mono _ _  k r h) e2
  rcases ite_some h with ⟨c4, h⟩ | ⟨c4, h⟩
  · obtain ⟨t5, e6, h⟩ := Option.bind_eq_some_iff.1 h
    have p7 := pick_of (fun k r h => whole_norm.mono _ _  k r h) e6
    simp only [bne] at p7
    obtain ⟨t8, e9, h⟩ := Option.bind_eq_some_iff.1 h
    have p10 := pick_of (fun k r h => whole_norm.mono _ _  k r h) e9
    rcases ite_some h with ⟨c11, h⟩ | ⟨c11, h⟩
    · simp only [bne, Bool.not_eq_true', Bool.not_eq_false', Bool.not_eq_true, Bool.not_eq_false] at c11
      try simp only [c11, Bool.not_false, Bool.not_true] at p3
      try simp only [c11, Bool.not_false, Bool.not_true] at p7
      try simp only [c11, Bool.not_false, Bool.not_true] at p10
      cases k with
      | zero => simp [whole_Floor.j0] at h
      | succ k12 =>
      simp only [whole_Floor.j0] at h
      rcases ite_some h with ⟨c13, h⟩ | ⟨c13, h⟩
      · simp only [decide_eq_true_eq] at c13
        obtain ⟨t14, e15, h⟩ := Option.bind_eq_some_iff.1 h
        have p16 := pick_of (fun k r h => whole_norm.mono _ _  k r h) e15
        obtain ⟨t17, e18, h⟩ := Option.bind_eq_some_iff.1 h
        have p19 := pick_of (fun k r h => whole_add.mono _ _ _ _  k r h) e18
        obtain ⟨t20, e21, h⟩ := Option.bind_eq_some_iff.1 h
        have p22 := pick_of (fun k r h => whole_add.mono _ _ _ _  k r h) e21
        obtain rfl := Option.some.inj h
        simp (maxSteps := 2000000) (disch := (first | omega | (simp only [List.length_append, List.length_map, List.length_cons, List.length_nil, List.length_set, List.length_replicate, List.length_take, List.size_toArray]; omega))) [E53, p3, c4, p7, p10, c11, c13, p16, p19, p22]
        try omega
      · simp only [decide_eq_true_eq] at c13
        obtain rfl := Option.some.inj h
        simp (maxSteps := 2000000) (disch := (first | omega | (simp only [List.length_append, List.length_map, List.length_cons, List.length_nil, List.length_set, List.length_replicate, List.length_take, List.size_toArray]; omega))) [E53, p3, c4, p7, p10, c11, c13]
        try omega
    · simp only [bne, Bool.not_eq_true', Bool.not_eq_false', Bool.not_eq_true, Bool.not_eq_false] at c11
      try simp only [c11, Bool.not_false, Bool.not_true] at p3
      try simp only [c11, Bool.not_false, Bool.not_true] at p7
      try simp only [c11, Bool.not_false, Bool.not_true] at p10
      cases k with
      | zero => simp [whole_Floor.j0] at h
      | succ k23 =>
      simp only [whole_Floor.j0] at h
      rcases ite_some h with ⟨c24, h⟩ | ⟨c24, h⟩
      · simp at c24
      · obtain rfl := Option.some.inj h
        simp (maxSteps := 2000000) (disch := (first | omega | (simp only [List.length_append, List.length_map, List.length_cons, List.length_nil, List.length_set, List.length_replicate, List.length_take, List.size_toArray]; omega))) [E53, p3, c4, p7, p10, c11]
        try omega
  · obtain rfl := Option.some.inj h
    simp (maxSteps := 2000000) (disch := (first | omega | (simp only [List.length_append, List.length_map, List.length_cons, List.length_nil, List.length_set, List.length_replicate, List.length_take, List.size_toArray]; omega))) [E53, p3, c4]
    try omega
theorem fit53 : Fits Try.prog E53.ref E53.dep Try.f53 = true := by kernel_rfl
theorem good53 : GoodV 53 := by
  intro xs r h
  simp only [SV] at h
  unfold SV53 at h
  split at h
  · obtain ⟨a0, h0, h⟩ := Option.bind_eq_some_iff.1 h
    obtain ⟨a1, h1, h⟩ := Option.bind_eq_some_iff.1 h
    obtain ⟨a2, h2, h⟩ := Option.bind_eq_some_iff.1 h
    obtain ⟨a3, h3, h⟩ := Option.bind_eq_some_iff.1 h
    obtain ⟨q, hq, rfl⟩ := Option.map_eq_some_iff.1 h
    obtain ⟨k, hk⟩ := of_pick hq
    obtain rfl := unB_eq h0
    obtain rfl := unI_eq h1
    obtain rfl := unB_eq h2
    obtain rfl := unI_eq h3
    exact okW_ends (mkE_ok (all_cons good39 (all_cons good43 (all_cons good69 all_nil))) (all_cons goodR39 (all_cons goodR43 (all_cons goodR69 all_nil)))) mixed Try.func53 rfl fit53 (n53_run k _ _ _ _  _ hk)
  · cases h
theorem goodR53 : GoodR 53 := fun _ _ _ _ _ _ h => by simp [SR] at h
end Go.Proofs.Ythkiklpcglogpaa.ZRat
namespace Go.Proofs.Ythkiklpcglogpaa.ZRat
open Go.RowKit Go.Proofs.Ythkiklpcglogpaa.Wd
open Go Go.Proofs.Ythkiklpcglogpaa.Ab Go.Proofs
set_option linter.unusedSimpArgs false
set_option linter.unusedVariables false
set_option maxHeartbeats 4000000
set_option maxRecDepth 10000
noncomputable def E79 : Env := mkE [] [] [] []
theorem n79_run (k : Nat) (a0 : Int) (l1 : List Int) (r : (Int × List Int)) (h : zelligeref04_make1.f  a0 l1 = some r) : AEnds E79 (finW Try.prog Try.f79.results) 0 [.code (Try.f79.body.getD .skip)] (startA Try.f79 [(.int .i64 a0), (rowI .i64 l1)] [] []) (.agg [(.int .i64 r.1), (rowI .i64 r.2)]) := by
  unfold zelligeref04_make1.f at h
  simp only [Try.f79, Option.getD_some, startA]
  rcases ite_some h with ⟨c1, h⟩ | ⟨c1, h⟩
  · obtain rfl := Option.some.inj h
    simp (maxSteps := 2000000) (disch := (first | omega | (simp only [List.length_append, List.length_map, List.length_cons, List.length_nil, List.length_set, List.length_replicate, List.length_take, List.size_toArray]; omega))) [E79, c1]
    try omega
  · obtain rfl := Option.some.inj h
    simp (maxSteps := 2000000) (disch := (first | omega | (simp only [List.length_append, List.length_map, List.length_cons, List.length_nil, List.length_set, List.length_replicate, List.length_take, List.size_toArray]; omega))) [E79, c1]
    try omega
theorem fit79 : Fits Try.prog E79.ref E79.dep Try.f79 = true := by kernel_rfl
theorem good79 : GoodV 79 := by
  intro xs r h
  simp only [SV] at h
  unfold SV79 at h
  split at h
  · obtain ⟨a0, h0, h⟩ := Option.bind_eq_some_iff.1 h
    obtain ⟨a1, h1, h⟩ := Option.bind_eq_some_iff.1 h
    obtain ⟨q, hq, rfl⟩ := Option.map_eq_some_iff.1 h
    obtain rfl := unN_eq h0
    obtain rfl := unI_eq h1
    exact okW_ends (mkE_ok all_nil all_nil) mixed Try.func79 rfl fit79 (n79_run 0 _ _  _ hq)
  · cases h
theorem goodR79 : GoodR 79 := fun _ _ _ _ _ _ h => by simp [SR] at h
end Go.Proofs.Ythkiklpcglogpaa.ZRat
namespace Go.Proofs.Ythkiklpcglogpaa.ZRat
open Go.RowKit Go.Proofs.Ythkiklpcglogpaa.Wd
open Go Go.Proofs.Ythkiklpcglogpaa.Ab Go.Proofs
set_option linter.unusedSimpArgs false
set_option linter.unusedVariables false
set_option maxHeartbeats 4000000
set_option maxRecDepth 10000
noncomputable def E26 : Env := mkE [] [25] [] []
theorem n26_run (k : Nat) (a0_0 : Bool) (l0_1 : List Int) (r : (Int × List Int)) (h : zelligeref04_Of.f k a0_0 l0_1 = some r) : AEnds E26 (finW Try.prog Try.f26.results) 0 [.code (Try.f26.body.getD .skip)] (startA Try.f26 [(.agg [(.bool a0_0), (rowI .u32 l0_1)])] [] []) (.agg [(.int .i64 r.1), (rowI .i64 r.2)]) := by
  unfold zelligeref04_Of.f at h
  simp only [Try.f26, Option.getD_some, startA]
  obtain ⟨t1, e2, h⟩ := Option.bind_eq_some_iff.1 h
  have p3 := pick_of (fun k r h => zelligeref03_Of.mono _  k r h) e2
  rcases ite_some h with ⟨c4, h⟩ | ⟨c4, h⟩
  · obtain rfl := Option.some.inj h
    simp (maxSteps := 2000000) (disch := (first | omega | (simp only [List.length_append, List.length_map, List.length_cons, List.length_nil, List.length_set, List.length_replicate, List.length_take, List.size_toArray]; omega))) [E26, p3, c4]
    try omega
  · rcases ite_some h with ⟨c5, h⟩ | ⟨c5, h⟩
    · obtain rfl := Option.some.inj h
      simp (maxSteps := 2000000) (disch := (first | omega | (simp only [List.length_append, List.length_map, List.length_cons, List.length_nil, List.length_set, List.length_replicate, List.length_take, List.size_toArray]; omega))) [E26, p3, c4, c5]
      try omega
    · obtain rfl := Option.some.inj h
      simp (maxSteps := 2000000) (disch := (first | omega | (simp only [List.length_append, List.length_map, List.length_cons, List.length_nil, List.length_set, List.length_replicate, List.length_take, List.size_toArray]; omega))) [E26, p3, c4, c5]
      try omega
theorem fit26 : Fits Try.prog E26.ref E26.dep Try.f26 = true := by kernel_rfl
theorem good26 : GoodV 26 := by
  intro xs r h
  simp only [SV] at h
  unfold SV26 at h
  split at h
  · obtain ⟨a0, h0, h⟩ := Option.bind_eq_some_iff.1 h
    obtain ⟨a1, h1, h⟩ := Option.bind_eq_some_iff.1 h
    obtain ⟨q, hq, rfl⟩ := Option.map_eq_some_iff.1 h
    obtain ⟨k, hk⟩ := of_pick hq
    obtain rfl := unB_eq h0
    obtain rfl := unI_eq h1
    exact okW_ends (mkE_ok (all_cons good25 all_nil) (all_cons goodR25 all_nil)) mixed Try.func26 rfl fit26 (n26_run k _ _  _ hk)
  · cases h
theorem goodR26 : GoodR 26 := fun _ _ _ _ _ _ h => by simp [SR] at h
end Go.Proofs.Ythkiklpcglogpaa.ZRat
namespace Go.Proofs.Ythkiklpcglogpaa.ZRat
open Go.RowKit Go.Proofs.Ythkiklpcglogpaa.Wd
open Go Go.Proofs.Ythkiklpcglogpaa.Ab Go.Proofs
set_option linter.unusedSimpArgs false
set_option linter.unusedVariables false
set_option maxHeartbeats 4000000
set_option maxRecDepth 10000
noncomputable def E23 : Env := mkE [] [25] [] []
theorem n23_run (k : Nat) (a0 : Int) (r : (Int × List Int)) (h : zelligeref04_Long.f k a0 = some r) : AEnds E23 (finW Try.prog Try.f23.results) 0 [.code (Try.f23.body.getD .skip)] (startA Try.f23 [(.int .i64 a0)] [] []) (.agg [(.int .i64 r.1), (rowI .i64 r.2)]) := by
  unfold zelligeref04_Long.f at h
  simp only [Try.f23, Option.getD_some, startA]
  rcases ite_some h with ⟨c1, h⟩ | ⟨c1, h⟩
  · obtain rfl := Option.some.inj h
    simp (maxSteps := 2000000) (disch := (first | omega | (simp only [List.length_append, List.length_map, List.length_cons, List.length_nil, List.length_set, List.length_replicate, List.length_take, List.size_toArray]; omega))) [E23, c1]
    try omega
  · rcases ite_some h with ⟨c2, h⟩ | ⟨c2, h⟩
    · obtain ⟨t3, e4, h⟩ := Option.bind_eq_some_iff.1 h
      have p5 := pick_of (fun k r h => zelligeref03_Of.mono _  k r h) e4
      obtain rfl := Option.some.inj h
      simp (maxSteps := 2000000) (disch := (first | omega | (simp only [List.length_append, List.length_map, List.length_cons, List.length_nil, List.length_set, List.length_replicate, List.length_take, List.size_toArray]; omega))) [E23, c1, c2, p5]
      try omega
    · obtain ⟨t6, e7, h⟩ := Option.bind_eq_some_iff.1 h
      have p8 := pick_of (fun k r h => zelligeref03_Of.mono _  k r h) e7
      obtain rfl := Option.some.inj h
      simp (maxSteps := 2000000) (disch := (first | omega | (simp only [List.length_append, List.length_map, List.length_cons, List.length_nil, List.length_set, List.length_replicate, List.length_take, List.size_toArray]; omega))) [E23, c1, c2, p8]
      try omega
theorem fit23 : Fits Try.prog E23.ref E23.dep Try.f23 = true := by kernel_rfl
theorem good23 : GoodV 23 := by
  intro xs r h
  simp only [SV] at h
  unfold SV23 at h
  split at h
  · obtain ⟨a0, h0, h⟩ := Option.bind_eq_some_iff.1 h
    obtain ⟨q, hq, rfl⟩ := Option.map_eq_some_iff.1 h
    obtain ⟨k, hk⟩ := of_pick hq
    obtain rfl := unN_eq h0
    exact okW_ends (mkE_ok (all_cons good25 all_nil) (all_cons goodR25 all_nil)) mixed Try.func23 rfl fit23 (n23_run k _  _ hk)
  · cases h
theorem goodR23 : GoodR 23 := fun _ _ _ _ _ _ h => by simp [SR] at h
end Go.Proofs.Ythkiklpcglogpaa.ZRat
namespace Go.Proofs.Ythkiklpcglogpaa.ZRat
open Go.RowKit Go.Proofs.Ythkiklpcglogpaa.Wd
open Go Go.Proofs.Ythkiklpcglogpaa.Ab Go.Proofs
set_option linter.unusedSimpArgs false
set_option linter.unusedVariables false
set_option maxHeartbeats 4000000
set_option maxRecDepth 10000
noncomputable def E27 : Env := mkE [] [28] [] []
theorem n27_run (k : Nat) (a0_0 : Bool) (l0_1 : List Int) (a1_0 : Int) (l1_1 : List Int) (r : (Bool)) (h : zelligeref04_Same.f k a0_0 l0_1 a1_0 l1_1 = some r) : AEnds E27 (finW Try.prog Try.f27.results) 0 [.code (Try.f27.body.getD .skip)] (startA Try.f27 [(.agg [(.bool a0_0), (rowI .u32 l0_1)]), (.agg [(.int .i64 a1_0), (rowI .i64 l1_1)])] [] []) (.bool r) := by
  unfold zelligeref04_Same.f at h
  simp only [Try.f27, Option.getD_some, startA]
  obtain ⟨t1, e2, h⟩ := Option.bind_eq_some_iff.1 h
  have p3 := pick_of (fun k r h => zelligeref03_Same.mono _ _  k r h) e2
  rcases ite_some h with ⟨c4, h⟩ | ⟨c4, h⟩
  · obtain rfl := Option.some.inj h
    simp (maxSteps := 2000000) (disch := (first | omega | (simp only [List.length_append, List.length_map, List.length_cons, List.length_nil, List.length_set, List.length_replicate, List.length_take, List.size_toArray]; omega))) [E27, p3, c4]
    try omega
  · obtain rfl := Option.some.inj h
    simp (maxSteps := 2000000) (disch := (first | omega | (simp only [List.length_append, List.length_map, List.length_cons, List.length_nil, List.length_set, List.length_replicate, List.length_take, List.size_toArray]; omega))) [E27, p3, c4]
    try omega
theorem fit27 : Fits Try.prog E27.ref E27.dep Try.f27 = true := by kernel_rfl
theorem good27 : GoodV 27 := by
  intro xs r h
  simp only [SV] at h
  unfold SV27 at h
  split at h
  · obtain ⟨a0, h0, h⟩ := Option.bind_eq_some_iff.1 h
    obtain ⟨a1, h1, h⟩ := Option.bind_eq_some_iff.1 h
    obtain ⟨a2, h2, h⟩ := Option.bind_eq_some_iff.1 h
    obtain ⟨a3, h3, h⟩ := Option.bind_eq_some_iff.1 h
    obtain ⟨q, hq, rfl⟩ := Option.map_eq_some_iff.1 h
    obtain ⟨k, hk⟩ := of_pick hq
    obtain rfl := unB_eq h0
    obtain rfl := unI_eq h1
    obtain rfl := unN_eq h2
    obtain rfl := unI_eq h3
    exact okW_ends (mkE_ok (all_cons good28 all_nil) (all_cons goodR28 all_nil)) mixed Try.func27 rfl fit27 (n27_run k _ _ _ _  _ hk)
  · cases h
theorem goodR27 : GoodR 27 := fun _ _ _ _ _ _ h => by simp [SR] at h
end Go.Proofs.Ythkiklpcglogpaa.ZRat
namespace Go.Proofs.Ythkiklpcglogpaa.ZRat
open Go.RowKit Go.Proofs.Ythkiklpcglogpaa.Wd
open Go Go.Proofs.Ythkiklpcglogpaa.Ab Go.Proofs
set_option linter.unusedSimpArgs false
set_option linter.unusedVariables false
set_option maxHeartbeats 4000000
set_option maxRecDepth 10000
noncomputable def E66 : Env := mkE [] [31, 64, 65, 79] [] []
theorem n66_run (k : Nat) (a0_0 : Int) (l0_1 : List Int) (a1_0 : Int) (l1_1 : List Int) (r : (Int × List Int)) (h : zelligeref04_Add.f k a0_0 l0_1 a1_0 l1_1 = some r) : AEnds E66 (finW Try.prog Try.f66.results) 0 [.code (Try.f66.body.getD .skip)] (startA Try.f66 [(.agg [(.int .i64 a0_0), (rowI .i64 l0_1)]), (.agg [(.int .i64 a1_0), (rowI .i64 l1_1)])] [] []) (.agg [(.int .i64 r.1), (rowI .i64 r.2)]) := by
  unfold zelligeref04_Add.f at h
  simp only [Try.f66, Option.getD_some, startA]
  rcases ite_some h with ⟨c1, h⟩ | ⟨c1, h⟩
  · obtain rfl := Option.some.inj h
    simp (maxSteps := 2000000) (disch := (first | omega | (simp only [List.length_append, List.length_map, List.length_cons, List.length_nil, List.length_set, List.length_replicate, List.length_take, List.size_toArray]; omega))) [E66, c1]
    try omega
  · rcases ite_some h with ⟨c2, h⟩ | ⟨c2, h⟩
    · obtain rfl := Option.some.inj h
      simp (maxSteps := 2000000) (disch := (first | omega | (simp only [List.length_append, List.length_map, List.length_cons, List.length_nil, List.length_set, List.length_replicate, List.length_take, List.size_toArray]; omega))) [E66, c1, c2]
      try omega
    · rcases ite_some h with ⟨c3, h⟩ | ⟨c3, h⟩
      · obtain ⟨t4, e5, h⟩ := Option.bind_eq_some_iff.1 h
        have p6 := pick_of (fun k r h => zelligeref03_Add.mono _ _  k r h) e5
        obtain rfl := Option.some.inj h
        simp (maxSteps := 2000000) (disch := (first | omega | (simp only [List.length_append, List.length_map, List.length_cons, List.length_nil, List.length_set, List.length_replicate, List.length_take, List.size_toArray]; omega))) [E66, c1, c2, c3, p6]
        try omega
      · obtain ⟨t7, e8, h⟩ := Option.bind_eq_some_iff.1 h
        have p9 := pick_of (fun k r h => zelligeref03_Cmp.mono _ _  k r h) e8
        rcases ite_some h with ⟨c10, h⟩ | ⟨c10, h⟩
        · obtain ⟨t11, e12, h⟩ := Option.bind_eq_some_iff.1 h
          have p13 := pick_of (fun k r h => zelligeref03_Sub.mono _ _  k r h) e12
          obtain ⟨t14, e15, h⟩ := Option.bind_eq_some_iff.1 h
          obtain rfl := Option.some.inj h
          simp (maxSteps := 2000000) (disch := (first | omega | (simp only [List.length_append, List.length_map, List.length_cons, List.length_nil, List.length_set, List.length_replicate, List.length_take, List.size_toArray]; omega))) [E66, c1, c2, c3, p9, c10, p13, e15]
          try omega
        · obtain ⟨t16, e17, h⟩ := Option.bind_eq_some_iff.1 h
          have p18 := pick_of (fun k r h => zelligeref03_Sub.mono _ _  k r h) e17
          obtain ⟨t19, e20, h⟩ := Option.bind_eq_some_iff.1 h
          obtain rfl := Option.some.inj h
          simp (maxSteps := 2000000) (disch := (first | omega | (simp only [List.length_append, List.length_map, List.length_cons, List.length_nil, List.length_set, List.length_replicate, List.length_take, List.size_toArray]; omega))) [E66, c1, c2, c3, p9, c10, p18, e20]
          try omega
theorem fit66 : Fits Try.prog E66.ref E66.dep Try.f66 = true := by kernel_rfl
theorem good66 : GoodV 66 := by
  intro xs r h
  simp only [SV] at h
  unfold SV66 at h
  split at h
  · obtain ⟨a0, h0, h⟩ := Option.bind_eq_some_iff.1 h
    obtain ⟨a1, h1, h⟩ := Option.bind_eq_some_iff.1 h
    obtain ⟨a2, h2, h⟩ := Option.bind_eq_some_iff.1 h
    obtain ⟨a3, h3, h⟩ := Option.bind_eq_some_iff.1 h
    obtain ⟨q, hq, rfl⟩ := Option.map_eq_some_iff.1 h
    obtain ⟨k, hk⟩ := of_pick hq
    obtain rfl := unN_eq h0
    obtain rfl := unI_eq h1
    obtain rfl := unN_eq h2
    obtain rfl := unI_eq h3
    exact okW_ends (mkE_ok (all_cons good31 (all_cons good64 (all_cons good65 (all_cons good79 all_nil)))) (all_cons goodR31 (all_cons goodR64 (all_cons goodR65 (all_cons goodR79 all_nil))))) mixed Try.func66 rfl fit66 (n66_run k _ _ _ _  _ hk)
  · cases h
theorem goodR66 : GoodR 66 := fun _ _ _ _ _ _ h => by simp [SR] at h
end Go.Proofs.Ythkiklpcglogpaa.ZRat
namespace Go.Proofs.Ythkiklpcglogpaa.ZRat
open Go.RowKit Go.Proofs.Ythkiklpcglogpaa.Wd
open Go Go.Proofs.Ythkiklpcglogpaa.Ab Go.Proofs
set_option linter.unusedSimpArgs false
set_option linter.unusedVariables false
set_option maxHeartbeats 4000000
set_option maxRecDepth 10000
noncomputable def E67 : Env := mkE [] [] [] []
theorem n67_run (k : Nat) (a0_0 : Int) (l0_1 : List Int) (r : (Int × List Int)) (h : zelligeref04_Neg.f  a0_0 l0_1 = some r) : AEnds E67 (finW Try.prog Try.f67.results) 0 [.code (Try.f67.body.getD .skip)] (startA Try.f67 [(.agg [(.int .i64 a0_0), (rowI .i64 l0_1)])] [] []) (.agg [(.int .i64 r.1), (rowI .i64 r.2)]) := by
  unfold zelligeref04_Neg.f at h
  simp only [Try.f67, Option.getD_some, startA]
  obtain rfl := Option.some.inj h
  simp (maxSteps := 2000000) (disch := (first | omega | (simp only [List.length_append, List.length_map, List.length_cons, List.length_nil, List.length_set, List.length_replicate, List.length_take, List.size_toArray]; omega))) [E67]
  try omega
theorem fit67 : Fits Try.prog E67.ref E67.dep Try.f67 = true := by kernel_rfl
theorem good67 : GoodV 67 := by
  intro xs r h
  simp only [SV] at h
  unfold SV67 at h
  split at h
  · obtain ⟨a0, h0, h⟩ := Option.bind_eq_some_iff.1 h
    obtain ⟨a1, h1, h⟩ := Option.bind_eq_some_iff.1 h
    obtain ⟨q, hq, rfl⟩ := Option.map_eq_some_iff.1 h
    obtain rfl := unN_eq h0
    obtain rfl := unI_eq h1
    exact okW_ends (mkE_ok all_nil all_nil) mixed Try.func67 rfl fit67 (n67_run 0 _ _  _ hq)
  · cases h
theorem goodR67 : GoodR 67 := fun _ _ _ _ _ _ h => by simp [SR] at h
end Go.Proofs.Ythkiklpcglogpaa.ZRat
namespace Go.Proofs.Ythkiklpcglogpaa.ZRat
open Go.RowKit Go.Proofs.Ythkiklpcglogpaa.Wd
open Go Go.Proofs.Ythkiklpcglogpaa.Ab Go.Proofs
set_option linter.unusedSimpArgs false
set_option linter.unusedVariables false
set_option maxHeartbeats 4000000
set_option maxRecDepth 10000
noncomputable def E46 : Env := mkE [] [66, 67] [] []
theorem n46_run (k : Nat) (a0_0 : Int) (l0_1 : List Int) (a1_0 : Int) (l1_1 : List Int) (r : (Int × List Int)) (h : zelligeref04_Sub.f k a0_0 l0_1 a1_0 l1_1 = some r) : AEnds E46 (finW Try.prog Try.f46.results) 0 [.code (Try.f46.body.getD .skip)] (startA Try.f46 [(.agg [(.int .i64 a0_0), (rowI .i64 l0_1)]), (.agg [(.int .i64 a1_0), (rowI .i64 l1_1)])] [] []) (.agg [(.int .i64 r.1), (rowI .i64 r.2)]) := by
  unfold zelligeref04_Sub.f at h
  simp only [Try.f46, Option.getD_some, startA]
  obtain ⟨t1, e2, h⟩ := Option.bind_eq_some_iff.1 h
  obtain ⟨t3, e4, h⟩ := Option.bind_eq_some_iff.1 h
  have p5 := pick_of (fun k r h => zelligeref04_Add.mono _ _ _ _  k r h) e4
  obtain rfl := Option.some.inj h
  simp (maxSteps := 2000000) (disch := (first | omega | (simp only [List.length_append, List.length_map, List.length_cons, List.length_nil, List.length_set, List.length_replicate, List.length_take, List.size_toArray]; omega))) [E46, e2, p5]
  try omega
theorem fit46 : Fits Try.prog E46.ref E46.dep Try.f46 = true := by kernel_rfl
theorem good46 : GoodV 46 := by
  intro xs r h
  simp only [SV] at h
  unfold SV46 at h
  split at h
  · obtain ⟨a0, h0, h⟩ := Option.bind_eq_some_iff.1 h
    obtain ⟨a1, h1, h⟩ := Option.bind_eq_some_iff.1 h
    obtain ⟨a2, h2, h⟩ := Option.bind_eq_some_iff.1 h
    obtain ⟨a3, h3, h⟩ := Option.bind_eq_some_iff.1 h
    obtain ⟨q, hq, rfl⟩ := Option.map_eq_some_iff.1 h
    obtain ⟨k, hk⟩ := of_pick hq
    obtain rfl := unN_eq h0
    obtain rfl := unI_eq h1
    obtain rfl := unN_eq h2
    obtain rfl := unI_eq h3
    exact okW_ends (mkE_ok (all_cons good66 (all_cons good67 all_nil)) (all_cons goodR66 (all_cons goodR67 all_nil))) mixed Try.func46 rfl fit46 (n46_run k _ _ _ _  _ hk)
  · cases h
theorem goodR46 : GoodR 46 := fun _ _ _ _ _ _ h => by simp [SR] at h
end Go.Proofs.Ythkiklpcglogpaa.ZRat
namespace Go.Proofs.Ythkiklpcglogpaa.ZRat
open Go.RowKit Go.Proofs.Ythkiklpcglogpaa.Wd
open Go Go.Proofs.Ythkiklpcglogpaa.Ab Go.Proofs
set_option linter.unusedSimpArgs false
set_option linter.unusedVariables false
set_option maxHeartbeats 4000000
set_option maxRecDepth 10000
noncomputable def E22 : Env := mkE [] [46] [] []
theorem n22_run (k : Nat) (a0_0 : Int) (l0_1 : List Int) (a1_0 : Int) (l1_1 : List Int) (r : (Int)) (h : zelligeref04_Cmp.f k a0_0 l0_1 a1_0 l1_1 = some r) : AEnds E22 (finW Try.prog Try.f22.results) 0 [.code (Try.f22.body.getD .skip)] (startA Try.f22 [(.agg [(.int .i64 a0_0), (rowI .i64 l0_1)]), (.agg [(.int .i64 a1_0), (rowI .i64 l1_1)])] [] []) (.int .i64 r) := by
  unfold zelligeref04_Cmp.f at h
  simp only [Try.f22, Option.getD_some, startA]
  obtain ⟨t1, e2, h⟩ := Option.bind_eq_some_iff.1 h
  have p3 := pick_of (fun k r h => zelligeref04_Sub.mono _ _ _ _  k r h) e2
  obtain rfl := Option.some.inj h
  simp (maxSteps := 2000000) (disch := (first | omega | (simp only [List.length_append, List.length_map, List.length_cons, List.length_nil, List.length_set, List.length_replicate, List.length_take, List.size_toArray]; omega))) [E22, p3]
  try omega
theorem fit22 : Fits Try.prog E22.ref E22.dep Try.f22 = true := by kernel_rfl
theorem good22 : GoodV 22 := by
  intro xs r h
  simp only [SV] at h
  unfold SV22 at h
  split at h
  · obtain ⟨a0, h0, h⟩ := Option.bind_eq_some_iff.1 h
    obtain ⟨a1, h1, h⟩ := Option.bind_eq_some_iff.1 h
    obtain ⟨a2, h2, h⟩ := Option.bind_eq_some_iff.1 h
    obtain ⟨a3, h3, h⟩ := Option.bind_eq_some_iff.1 h
    obtain ⟨q, hq, rfl⟩ := Option.map_eq_some_iff.1 h
    obtain ⟨k, hk⟩ := of_pick hq
    obtain rfl := unN_eq h0
    obtain rfl := unI_eq h1
    obtain rfl := unN_eq h2
    obtain rfl := unI_eq h3
    exact okW_ends (mkE_ok (all_cons good46 all_nil) (all_cons goodR46 all_nil)) mixed Try.func22 rfl fit22 (n22_run k _ _ _ _  _ hk)
  · cases h
theorem goodR22 : GoodR 22 := fun _ _ _ _ _ _ h => by simp [SR] at h
end Go.Proofs.Ythkiklpcglogpaa.ZRat
/- Numbers told by abstract values, and what they are worth. -/
namespace Go.Proofs.Ythkiklpcglogpaa.ZRat
open Go.RowKit Go.Proofs.Ythkiklpcglogpaa.Wd
open Go Go.Proofs.Ythkiklpcglogpaa.Ab Go.Proofs Go.Proofs.Ythkiklpcglogpaa.Num Go.Proofs.Ythkiklpcglogpaa.ZRatP
set_option linter.unusedSimpArgs false
set_option linter.unusedVariables false
/-- A number's row; a whole number; a fraction; and the reference's. -/
def natA (n : Nat) : AV := rowI .u32 (NB 4294967296 n)
def intA (z : Int) : AV := .agg [.bool (decide (z < 0)), natA z.natAbs]
def ratA (q : Rat) : AV := .agg [.bool (decide (q.num < 0)), natA q.num.natAbs, natA q.den]
def digA (n : Nat) : AV := rowI .i64 (NB 65536 n)
def rintA (z : Int) : AV := .agg [.int .i64 z.sign, digA z.natAbs]
def rratA (n d : Int) : AV := .agg [.int .i64 n.sign, digA n.natAbs, .int .i64 d.sign, digA d.natAbs]
open Classical in
/-- What they are worth, of so many words. -/
noncomputable def natL (L : Nat) (l : List Int) : Option Nat := if WB 4294967296 l ∧ l.length ≤ L then some (VB 4294967296 l) else none
open Classical in
noncomputable def digL (L : Nat) (l : List Int) : Option Nat := if l = NB 65536 (VB 65536 l) ∧ l.length ≤ L then some (VB 65536 l) else none
noncomputable def natD (L : Nat) (x : AV) : Option Nat := (unI .u32 x).bind (natL L)
noncomputable def intC (L : Nat) (b x : AV) : Option Int := (unB b).bind fun b => (natD L x).map fun (n : Nat) => if b = true then -(n : Int) else (n : Int)
noncomputable def intD (L : Nat) : AV → Option Int
  | .agg [b, x] => intC L b x
  | _ => none
noncomputable def ratD (L : Nat) : AV → Option Rat
  | .agg [b, x, y] => (intC L b x).bind fun n => (natD L y).map fun d => mkRat n d
  | _ => none
noncomputable def digD (L : Nat) (x : AV) : Option Nat := (unI .i64 x).bind (digL L)
open Classical in
noncomputable def rintC (L : Nat) (s x : AV) : Option Int := (unN .i64 s).bind fun s => (digD L x).bind fun n => if (s * (n : Int)).sign = s ∧ (s * (n : Int)).natAbs = n then some (s * n) else none
noncomputable def rintD (L : Nat) : AV → Option Int
  | .agg [s, x] => rintC L s x
  | _ => none
noncomputable def rratD (L : Nat) : AV → Option (Int × Int)
  | .agg [s, x, t, y] => (rintC L s x).bind fun n => (rintC L t y).map fun d => (n, d)
  | _ => none
theorem natL_of {L : Nat} {l : List Int} (h : WB 4294967296 l) (hl : l.length ≤ L) : natL L l = some (VB 4294967296 l) := by unfold natL; rw [if_pos ⟨h, hl⟩]
theorem natL_out {L : Nat} {l : List Int} {n : Nat} (h : natL L l = some n) : WB 4294967296 l ∧ l.length ≤ L ∧ n = VB 4294967296 l := by
  unfold natL at h
  split at h
  · rename_i hc; cases h; exact ⟨hc.1, hc.2, rfl⟩
  · cases h
theorem digL_of {L n : Nat} (hl : (NB 65536 n).length ≤ L) : digL L (NB 65536 n) = some n := by unfold digL; rw [VB_NB (by omega), if_pos ⟨rfl, hl⟩]
theorem digL_out {L : Nat} {l : List Int} {n : Nat} (h : digL L l = some n) : l = NB 65536 n ∧ l.length ≤ L := by
  unfold digL at h
  split at h
  · rename_i hc; cases h; exact hc
  · cases h
theorem natD_out {L : Nat} {x : AV} {n : Nat} (h : natD L x = some n) : ∃ l, x = rowI .u32 l ∧ unI .u32 x = some l ∧ WB 4294967296 l ∧ l.length ≤ L ∧ n = VB 4294967296 l := by
  obtain ⟨l, hl, hn⟩ := Option.bind_eq_some_iff.1 h
  obtain ⟨h1, h2, h3⟩ := natL_out hn
  exact ⟨l, unI_eq hl, hl, h1, h2, h3⟩
theorem intC_out {L : Nat} {b x : AV} {z : Int} (h : intC L b x = some z) : ∃ s l, b = .bool s ∧ x = rowI .u32 l ∧ unI .u32 x = some l ∧ WB 4294967296 l ∧ l.length ≤ L ∧ z = IVal s l := by
  obtain ⟨s, hs, h⟩ := Option.bind_eq_some_iff.1 h
  obtain ⟨n, hn, rfl⟩ := Option.map_eq_some_iff.1 h
  obtain ⟨l, h1, h2, h3, h4, rfl⟩ := natD_out hn
  exact ⟨s, l, unB_eq hs, h1, h2, h3, h4, rfl⟩
theorem intD_out {L : Nat} {x : AV} {z : Int} (h : intD L x = some z) : ∃ s l, x = .agg [.bool s, rowI .u32 l] ∧ WB 4294967296 l ∧ l.length ≤ L ∧ z = IVal s l := by
  unfold intD at h
  split at h
  · obtain ⟨s, l, rfl, rfl, _, h1, h2, h3⟩ := intC_out h; exact ⟨s, l, rfl, h1, h2, h3⟩
  · cases h
theorem digD_out {L : Nat} {x : AV} {n : Nat} (h : digD L x = some n) : x = digA n ∧ (NB 65536 n).length ≤ L := by
  obtain ⟨l, hl, hn⟩ := Option.bind_eq_some_iff.1 h
  obtain ⟨rfl, h2⟩ := digL_out hn
  exact ⟨unI_eq hl, h2⟩
theorem rintC_out {L : Nat} {s x : AV} {z : Int} (h : rintC L s x = some z) : s = .int .i64 z.sign ∧ x = digA z.natAbs ∧ (NB 65536 z.natAbs).length ≤ L := by
  obtain ⟨t, ht, h⟩ := Option.bind_eq_some_iff.1 h
  obtain ⟨n, hn, h⟩ := Option.bind_eq_some_iff.1 h
  split at h
  · rename_i hs
    cases h
    obtain ⟨rfl, h2⟩ := digD_out hn
    rw [unN_eq ht, hs.1, hs.2]
    exact ⟨rfl, rfl, h2⟩
  · cases h
theorem rintD_out {L : Nat} {x : AV} {z : Int} (h : rintD L x = some z) : x = rintA z ∧ (NB 65536 z.natAbs).length ≤ L := by
  unfold rintD at h
  split at h
  · obtain ⟨rfl, rfl, h1⟩ := rintC_out h; exact ⟨rfl, h1⟩
  · cases h
/-! For simp. -/
theorem natD_row {L n : Nat} {l : List Int} (hn : n = l.length) (h : WB 4294967296 l) (hl : l.length ≤ L) : natD L (.row n (l.map (.int .u32))) = some (VB 4294967296 l) := by
  unfold natD; rw [unI_row _ _ _ hn]; exact natL_of h hl
theorem natD_nil {L : Nat} : natD L (.row 0 []) = some 0 := natD_row (l := []) rfl (WB_nil _) (Nat.zero_le _)
theorem intC_row {L n : Nat} {b : Bool} {l : List Int} (hn : n = l.length) (h : WB 4294967296 l) (hl : l.length ≤ L) : intC L (.bool b) (.row n (l.map (.int .u32))) = some (IVal b l) := by
  unfold intC; rw [natD_row hn h hl]; rfl
theorem intC_nil {L : Nat} {b : Bool} : intC L (.bool b) (.row 0 []) = some 0 := (intC_row (l := []) rfl (WB_nil _) (Nat.zero_le _)).trans (by cases b <;> rfl)
theorem digD_row {L n m : Nat} (hn : m = (NB 65536 n).length) (hl : (NB 65536 n).length ≤ L) : digD L (.row m ((NB 65536 n).map (.int .i64))) = some n := by
  unfold digD; rw [unI_row _ _ _ hn]; exact digL_of hl
theorem digD_nil {L : Nat} : digD L (.row 0 []) = some 0 := by have := digD_row (L := L) (n := 0) (m := 0) (by rw [NB_zero]; rfl) (by rw [NB_zero]; exact Nat.zero_le _); rwa [NB_zero] at this
theorem rintC_row {L m n : Nat} {s : Int} (hn : m = (NB 65536 n).length) (hl : (NB 65536 n).length ≤ L) (h1 : (s * (n : Int)).sign = s) (h2 : (s * (n : Int)).natAbs = n) : rintC L (.int .i64 s) (.row m ((NB 65536 n).map (.int .i64))) = some (s * n) := by
  unfold rintC; rw [digD_row hn hl]; simp only [unN, if_true, Option.bind_some]; rw [if_pos ⟨h1, h2⟩]
theorem rintC_can {L m : Nat} {z : Int} (hn : m = (NB 65536 z.natAbs).length) (hl : (NB 65536 z.natAbs).length ≤ L) : rintC L (.int .i64 z.sign) (.row m ((NB 65536 z.natAbs).map (.int .i64))) = some z := by
  have e : z.sign * (z.natAbs : Int) = z := Int.sign_mul_natAbs z
  rw [rintC_row hn hl (by rw [e]) (by rw [e]), e]
theorem rintC_zero {L : Nat} : rintC L (.int .i64 0) (.row 0 []) = some 0 := by have := rintC_can (L := L) (z := 0) (m := 0) (by simp [NB_zero]) (by simp [NB_zero]); simpa [NB_zero] using this
theorem IVal_can (z : Int) : IVal (decide (z < 0)) (NB 4294967296 z.natAbs) = z := IC_val z
theorem IVal_nat (n : Nat) : IVal false (NB 4294967296 n) = (n : Int) := by unfold IVal; rw [VB_NB (by omega)]; rfl
theorem VBN (n : Nat) : VB 4294967296 (NB 4294967296 n) = n := VB_NB (by omega) n
theorem WBN (b n : Nat) : WB b (NB b n) = True := by simp [WB_NB]
theorem lenN0 (n : Nat) : ((NB 4294967296 n).length = 0) = (n = 0) := by rw [NB_len0 (by omega)]
theorem lenD0 (n : Nat) : ((NB 65536 n).length = 0) = (n = 0) := by rw [NB_len0 (by omega)]
end Go.Proofs.Ythkiklpcglogpaa.ZRat
/- Meanings told of numbers: nat, whole, and the references of both. -/
namespace Go.Proofs.Ythkiklpcglogpaa.ZRat
open Go.RowKit Go.Proofs.Ythkiklpcglogpaa.Wd
open Go Go.Proofs.Ythkiklpcglogpaa.Ab Go.Proofs Go.Proofs.Ythkiklpcglogpaa.Num Go.Proofs.Ythkiklpcglogpaa.ZRatP
set_option linter.unusedSimpArgs false
set_option linter.unusedVariables false
theorem ev_pick {α : Type} {g : Nat → Option α} {r : α} (mono : ∀ k r, g k = some r → g (k + 1) = some r) (h : Ev g r) : pick g = some r := let ⟨_, hk⟩ := h.rounds; pick_of mono hk
theorem unI_rowI (k : IntKind) (l : List Int) : unI k (rowI k l) = some l := unI_row k l _ rfl
theorem Sz_dig {z : Int} {L : Nat} (h : (NB 65536 z.natAbs).length ≤ L) : Sz z L := by
  have h1 := NB_lt_length (b := 65536) (by omega) z.natAbs
  refine Nat.lt_of_lt_of_le h1 (Nat.le_trans (Nat.pow_le_pow_right (by omega) h) (Nat.pow_le_pow_left (by omega) L))
theorem NB_of_dig {n L : Nat} (h : (NB 65536 n).length ≤ L) : (NB 4294967296 n).length ≤ L := NB_length_le (by omega) n L (Nat.lt_of_lt_of_le (NB_lt_length (by omega) n) (Nat.le_trans (Nat.pow_le_pow_right (by omega) h) (Nat.pow_le_pow_left (by omega) L)))
/-- The calls of a walk: a function's number, and what it means. -/
def callS : List (FuncId × (List AV → Option AV)) → FuncId → List AV → Option AV
  | [], _, _ => none
  | (g, s) :: L, f, xs => if g = f then s xs else callS L f xs
noncomputable def mkS (L : List (FuncId × (List AV → Option AV))) (kt : List (Nat × List Nat)) (dt : List (Nat × List (List Nat × List Nat × Bool))) : Env := ⟨Try.prog, fun _ => false, fun f xs => callS L f (xs.map wk), fun _ _ _ _ => none, keepT kt, depT dt, fun _ _ => none⟩
def GoodS (p : FuncId × (List AV → Option AV)) : Prop := ∀ xs r, p.2 xs = some r → OkF Try.prog p.1 xs r
theorem alls_nil : ∀ p ∈ ([] : List (FuncId × (List AV → Option AV))), GoodS p := fun f h => by cases h
theorem alls_cons {a : FuncId × (List AV → Option AV)} {l : List (FuncId × (List AV → Option AV))} (h : GoodS a) (t : ∀ f ∈ l, GoodS f) : ∀ f ∈ a :: l, GoodS f := fun f hf => by
  rcases List.mem_cons.1 hf with e | e
  · exact e ▸ h
  · exact t f e
theorem callS_ok {L : List (FuncId × (List AV → Option AV))} (h : ∀ p ∈ L, GoodS p) {f : FuncId} {xs : List AV} {r : AV} (hc : callS L f xs = some r) : OkF Try.prog f xs r := by
  induction L with
  | nil => simp [callS] at hc
  | cons a L ih =>
    obtain ⟨g, s⟩ := a
    simp only [callS] at hc
    split at hc
    · rename_i e; subst e; exact h (g, s) (by simp) _ _ hc
    · exact ih (fun p hp => h p (by simp [hp])) hc
theorem mkS_ok {L : List (FuncId × (List AV → Option AV))} {kt : List (Nat × List Nat)} {dt : List (Nat × List (List Nat × List Nat × Bool))} (h : ∀ p ∈ L, GoodS p) : EnvOk (mkS L kt dt) Try.prog :=
  ⟨rfl, fun f xs r hc => OkF.wkA (callS_ok h hc), fun f xs h z v h' z' hr => by simp [mkS] at hr, fun _ _ _ h => by simp [mkS] at h⟩
noncomputable def NTrim : List AV → Option AV
  | [x0] => (natD 1000000 x0).bind fun a0 => some (natA a0)
  | _ => none
theorem sNTrim : GoodS (41, NTrim) := by
  intro xs r h
  simp only at h
  unfold NTrim at h
  split at h
  · obtain ⟨a0, h0, h⟩ := Option.bind_eq_some_iff.1 h
    cases h
    obtain ⟨l0, rfl, -, w0, b0, rfl⟩ := natD_out h0
    have e := Trim_f l0 w0 (by omega)
    refine .inl (good41 _ _ ?_)
    have p := ev_pick (fun k r h => nat_Trim.mono _ k r h) e
    simp only [SV, SV41, rintA, digA, natA, unI_rowI, unB, unN, if_true, Option.bind_some]
    rw [p]
    rfl
  · cases h
noncomputable def NGcd : List AV → Option AV
  | [x0, x1] => (natD 1000000 x0).bind fun a0 => (natD 1000000 x1).bind fun a1 => some (natA (Nat.gcd a0 a1))
  | _ => none
theorem sNGcd : GoodS (42, NGcd) := by
  intro xs r h
  simp only at h
  unfold NGcd at h
  split at h
  · obtain ⟨a0, h0, h⟩ := Option.bind_eq_some_iff.1 h
    obtain ⟨a1, h1, h⟩ := Option.bind_eq_some_iff.1 h
    cases h
    obtain ⟨l0, rfl, -, w0, b0, rfl⟩ := natD_out h0
    obtain ⟨l1, rfl, -, w1, b1, rfl⟩ := natD_out h1
    have e := Gcd_f l0 l1 w0 w1 (by omega) (by omega)
    refine .inl (good42 _ _ ?_)
    have p := ev_pick (fun k r h => nat_Gcd.mono _ _ k r h) e
    simp only [SV, SV42, rintA, digA, natA, unI_rowI, unB, unN, if_true, Option.bind_some]
    rw [p]
    rfl
  · cases h
noncomputable def NAdd : List AV → Option AV
  | [x0, x1] => (natD 1000000 x0).bind fun a0 => (natD 1000000 x1).bind fun a1 => some (natA (a0 + a1))
  | _ => none
theorem sNAdd : GoodS (54, NAdd) := by
  intro xs r h
  simp only at h
  unfold NAdd at h
  split at h
  · obtain ⟨a0, h0, h⟩ := Option.bind_eq_some_iff.1 h
    obtain ⟨a1, h1, h⟩ := Option.bind_eq_some_iff.1 h
    cases h
    obtain ⟨l0, rfl, -, w0, b0, rfl⟩ := natD_out h0
    obtain ⟨l1, rfl, -, w1, b1, rfl⟩ := natD_out h1
    have e := Add_f l0 l1 w0 w1 (by omega) (by omega)
    refine .inl (good54 _ _ ?_)
    have p := ev_pick (fun k r h => nat_Add.mono _ _ k r h) e
    simp only [SV, SV54, rintA, digA, natA, unI_rowI, unB, unN, if_true, Option.bind_some]
    rw [p]
    rfl
  · cases h
noncomputable def NCmp : List AV → Option AV
  | [x0, x1] => (natD 1000000 x0).bind fun a0 => (natD 1000000 x1).bind fun a1 => some (.int .i64 (cmpN a0 a1))
  | _ => none
theorem sNCmp : GoodS (35, NCmp) := by
  intro xs r h
  simp only at h
  unfold NCmp at h
  split at h
  · obtain ⟨a0, h0, h⟩ := Option.bind_eq_some_iff.1 h
    obtain ⟨a1, h1, h⟩ := Option.bind_eq_some_iff.1 h
    cases h
    obtain ⟨l0, rfl, -, w0, b0, rfl⟩ := natD_out h0
    obtain ⟨l1, rfl, -, w1, b1, rfl⟩ := natD_out h1
    have e := Cmp_f l0 l1 w0 w1 (by omega) (by omega)
    refine .inl (good35 _ _ ?_)
    have p := ev_pick (fun k r h => nat_Cmp.mono _ _ k r h) e
    simp only [SV, SV35, rintA, digA, natA, unI_rowI, unB, unN, if_true, Option.bind_some]
    rw [p]
    rfl
  · cases h
noncomputable def NShow : List AV → Option AV
  | [x0] => (natD 1000000 x0).bind fun a0 => some (.str (showS a0))
  | _ => none
theorem sNShow : GoodS (36, NShow) := by
  intro xs r h
  simp only at h
  unfold NShow at h
  split at h
  · obtain ⟨a0, h0, h⟩ := Option.bind_eq_some_iff.1 h
    cases h
    obtain ⟨l0, rfl, -, w0, b0, rfl⟩ := natD_out h0
    have e := Show_f l0 w0 (by omega)
    refine .inl (good36 _ _ ?_)
    have p := ev_pick (fun k r h => nat_Show.mono _ k r h) e
    simp only [SV, SV36, rintA, digA, natA, unI_rowI, unB, unN, if_true, Option.bind_some]
    rw [p]
    rfl
  · cases h
noncomputable def NDivMod : List AV → Option AV
  | [x0, x1] => (natD 1000000 x0).bind fun a0 => (natD 1000000 x1).bind fun a1 => if a1 ≠ 0 then some (.tup [natA (a0 / a1), natA (a0 % a1), .int .i64 0]) else none
  | _ => none
theorem sNDivMod : GoodS (43, NDivMod) := by
  intro xs r h
  simp only at h
  unfold NDivMod at h
  split at h
  · obtain ⟨a0, h0, h⟩ := Option.bind_eq_some_iff.1 h
    obtain ⟨a1, h1, h⟩ := Option.bind_eq_some_iff.1 h
    rcases ite_some h with ⟨hc, h⟩ | ⟨hc, h⟩
    · cases h
      obtain ⟨l0, rfl, -, w0, b0, rfl⟩ := natD_out h0
      obtain ⟨l1, rfl, -, w1, b1, rfl⟩ := natD_out h1
      have e := DivMod_f l0 l1 w0 w1 (by omega) (by omega)
      refine .inl (good43 _ _ ?_)
      have p := ev_pick (fun k r h => nat_DivMod.mono _ _ k r h) e
      rw [if_neg hc] at p
      simp only [SV, SV43, rintA, digA, natA, unI_rowI, unB, unN, if_true, Option.bind_some]
      rw [p]
      rfl
    · cases h
  · cases h
noncomputable def WNorm : List AV → Option AV
  | [x0] => (intD 1000000 x0).bind fun a0 => some (intA a0)
  | _ => none
theorem sWNorm : GoodS (40, WNorm) := by
  intro xs r h
  simp only at h
  unfold WNorm at h
  split at h
  · obtain ⟨a0, h0, h⟩ := Option.bind_eq_some_iff.1 h
    cases h
    obtain ⟨s0, l0, rfl, w0, b0, rfl⟩ := intD_out h0
    have e := wNorm_f s0 l0 w0 (by omega)
    refine .inl (good40 _ _ ?_)
    have p := ev_pick (fun k r h => whole_Norm.mono _ _ k r h) e
    simp only [SV, SV40, rintA, digA, natA, unI_rowI, unB, unN, if_true, Option.bind_some]
    rw [p]
    rfl
  · cases h
noncomputable def WAdd : List AV → Option AV
  | [x0, x1] => (intD 1000000 x0).bind fun a0 => (intD 1000000 x1).bind fun a1 => some (intA (a0 + a1))
  | _ => none
theorem sWAdd : GoodS (51, WAdd) := by
  intro xs r h
  simp only at h
  unfold WAdd at h
  split at h
  · obtain ⟨a0, h0, h⟩ := Option.bind_eq_some_iff.1 h
    obtain ⟨a1, h1, h⟩ := Option.bind_eq_some_iff.1 h
    cases h
    obtain ⟨s0, l0, rfl, w0, b0, rfl⟩ := intD_out h0
    obtain ⟨s1, l1, rfl, w1, b1, rfl⟩ := intD_out h1
    have e := wAdd_f s0 s1 l0 l1 w0 w1 (by omega) (by omega)
    refine .inl (good51 _ _ ?_)
    have p := ev_pick (fun k r h => whole_Add.mono _ _ _ _ k r h) e
    simp only [SV, SV51, rintA, digA, natA, unI_rowI, unB, unN, if_true, Option.bind_some]
    rw [p]
    rfl
  · cases h
noncomputable def WNeg : List AV → Option AV
  | [x0] => (intD 1000000 x0).bind fun a0 => some (intA (-a0))
  | _ => none
theorem sWNeg : GoodS (50, WNeg) := by
  intro xs r h
  simp only at h
  unfold WNeg at h
  split at h
  · obtain ⟨a0, h0, h⟩ := Option.bind_eq_some_iff.1 h
    cases h
    obtain ⟨s0, l0, rfl, w0, b0, rfl⟩ := intD_out h0
    have e := wNeg_f s0 l0 w0 (by omega)
    refine .inl (good50 _ _ ?_)
    have p := ev_pick (fun k r h => whole_Neg.mono _ _ k r h) e
    simp only [SV, SV50, rintA, digA, natA, unI_rowI, unB, unN, if_true, Option.bind_some]
    rw [p]
    rfl
  · cases h
noncomputable def WSign : List AV → Option AV
  | [x0] => (intD 1000000 x0).bind fun a0 => some (.int .i64 a0.sign)
  | _ => none
theorem sWSign : GoodS (49, WSign) := by
  intro xs r h
  simp only at h
  unfold WSign at h
  split at h
  · obtain ⟨a0, h0, h⟩ := Option.bind_eq_some_iff.1 h
    cases h
    obtain ⟨s0, l0, rfl, w0, b0, rfl⟩ := intD_out h0
    have e := wSign_f s0 l0 w0 (by omega)
    refine .inl (good49 _ _ ?_)
    have p := ev_pick (fun k r h => whole_Sign.mono _ _ k r h) e
    simp only [SV, SV49, rintA, digA, natA, unI_rowI, unB, unN, if_true, Option.bind_some]
    rw [p]
    rfl
  · cases h
noncomputable def WShow : List AV → Option AV
  | [x0] => (intD 1000000 x0).bind fun a0 => some (.str (showZ a0))
  | _ => none
theorem sWShow : GoodS (34, WShow) := by
  intro xs r h
  simp only at h
  unfold WShow at h
  split at h
  · obtain ⟨a0, h0, h⟩ := Option.bind_eq_some_iff.1 h
    cases h
    obtain ⟨s0, l0, rfl, w0, b0, rfl⟩ := intD_out h0
    have e := wShow_f s0 l0 w0 (by omega)
    refine .inl (good34 _ _ ?_)
    have p := ev_pick (fun k r h => whole_Show.mono _ _ k r h) e
    simp only [SV, SV34, rintA, digA, natA, unI_rowI, unB, unN, if_true, Option.bind_some]
    rw [p]
    rfl
  · cases h
noncomputable def WFloor : List AV → Option AV
  | [x0, x1] => (intD 1000000 x0).bind fun a0 => (intD 1000000 x1).bind fun a1 => if a1 ≠ 0 then some (.tup [intA (a0.fdiv a1), intA (a0.fmod a1), .int .i64 0]) else none
  | _ => none
theorem sWFloor : GoodS (53, WFloor) := by
  intro xs r h
  simp only at h
  unfold WFloor at h
  split at h
  · obtain ⟨a0, h0, h⟩ := Option.bind_eq_some_iff.1 h
    obtain ⟨a1, h1, h⟩ := Option.bind_eq_some_iff.1 h
    rcases ite_some h with ⟨hc, h⟩ | ⟨hc, h⟩
    · cases h
      obtain ⟨s0, l0, rfl, w0, b0, rfl⟩ := intD_out h0
      obtain ⟨s1, l1, rfl, w1, b1, rfl⟩ := intD_out h1
      have e := wFloor_f s0 s1 l0 l1 w0 w1 (by omega) (by omega) hc
      refine .inl (good53 _ _ ?_)
      have p := ev_pick (fun k r h => whole_Floor.mono _ _ _ _ k r h) e
      simp only [SV, SV53, rintA, digA, natA, unI_rowI, unB, unN, if_true, Option.bind_some]
      rw [p]
      rfl
    · cases h
  · cases h
noncomputable def DOf : List AV → Option AV
  | [x0] => (natD 1000000 x0).bind fun a0 => some (digA a0)
  | _ => none
theorem sDOf : GoodS (25, DOf) := by
  intro xs r h
  simp only at h
  unfold DOf at h
  split at h
  · obtain ⟨a0, h0, h⟩ := Option.bind_eq_some_iff.1 h
    cases h
    obtain ⟨l0, rfl, -, w0, b0, rfl⟩ := natD_out h0
    have e := ROf_f l0 w0 (by omega)
    refine .inl (good25 _ _ ?_)
    have p := ev_pick (fun k r h => zelligeref03_Of.mono _ k r h) e
    simp only [SV, SV25, rintA, digA, natA, unI_rowI, unB, unN, if_true, Option.bind_some]
    rw [p]
    rfl
  · cases h
noncomputable def DGcd : List AV → Option AV
  | [x0, x1] => (digD 2000000 x0).bind fun a0 => (digD 2000000 x1).bind fun a1 => some (digA (Nat.gcd a0 a1))
  | _ => none
theorem sDGcd : GoodS (44, DGcd) := by
  intro xs r h
  simp only at h
  unfold DGcd at h
  split at h
  · obtain ⟨a0, h0, h⟩ := Option.bind_eq_some_iff.1 h
    obtain ⟨a1, h1, h⟩ := Option.bind_eq_some_iff.1 h
    cases h
    obtain ⟨rfl, b0⟩ := digD_out h0
    obtain ⟨rfl, b1⟩ := digD_out h1
    have e := RGcd_f a0 a1 (by omega) (by omega)
    refine .inl (good44 _ _ ?_)
    have p := ev_pick (fun k r h => zelligeref03_Gcd.mono _ _ k r h) e
    simp only [SV, SV44, rintA, digA, natA, unI_rowI, unB, unN, if_true, Option.bind_some]
    rw [p]
    rfl
  · cases h
noncomputable def DCmp : List AV → Option AV
  | [x0, x1] => (digD 2000000 x0).bind fun a0 => (digD 2000000 x1).bind fun a1 => some (.int .i64 (cmpN a0 a1))
  | _ => none
theorem sDCmp : GoodS (64, DCmp) := by
  intro xs r h
  simp only at h
  unfold DCmp at h
  split at h
  · obtain ⟨a0, h0, h⟩ := Option.bind_eq_some_iff.1 h
    obtain ⟨a1, h1, h⟩ := Option.bind_eq_some_iff.1 h
    cases h
    obtain ⟨rfl, b0⟩ := digD_out h0
    obtain ⟨rfl, b1⟩ := digD_out h1
    have e := RCmp_f a0 a1 (by omega)
    refine .inl (good64 _ _ ?_)
    have p := ev_pick (fun k r h => zelligeref03_Cmp.mono _ _ k r h) e
    simp only [SV, SV64, rintA, digA, natA, unI_rowI, unB, unN, if_true, Option.bind_some]
    rw [p]
    rfl
  · cases h
noncomputable def DDivMod : List AV → Option AV
  | [x0, x1] => (digD 2000000 x0).bind fun a0 => (digD 2000000 x1).bind fun a1 => if a1 ≠ 0 then some (.tup [digA (a0 / a1), digA (a0 % a1)]) else none
  | _ => none
theorem sDDivMod : GoodS (45, DDivMod) := by
  intro xs r h
  simp only at h
  unfold DDivMod at h
  split at h
  · obtain ⟨a0, h0, h⟩ := Option.bind_eq_some_iff.1 h
    obtain ⟨a1, h1, h⟩ := Option.bind_eq_some_iff.1 h
    rcases ite_some h with ⟨hc, h⟩ | ⟨hc, h⟩
    · cases h
      obtain ⟨rfl, b0⟩ := digD_out h0
      obtain ⟨rfl, b1⟩ := digD_out h1
      have e := RDivMod_f a0 a1 (by omega) (by omega) (by omega)
      refine .inl (good45 _ _ ?_)
      have p := ev_pick (fun k r h => zelligeref03_DivMod.mono _ _ k r h) e
      simp only [SV, SV45, rintA, digA, natA, unI_rowI, unB, unN, if_true, Option.bind_some]
      rw [p]
      rfl
    · cases h
  · cases h
noncomputable def ZOf : List AV → Option AV
  | [x0] => (intD 1000000 x0).bind fun a0 => some (rintA a0)
  | _ => none
theorem sZOf : GoodS (26, ZOf) := by
  intro xs r h
  simp only at h
  unfold ZOf at h
  split at h
  · obtain ⟨a0, h0, h⟩ := Option.bind_eq_some_iff.1 h
    cases h
    obtain ⟨s0, l0, rfl, w0, b0, rfl⟩ := intD_out h0
    have e := ROf4_f s0 l0 w0 (by omega)
    refine .inl (good26 _ _ ?_)
    have p := ev_pick (fun k r h => zelligeref04_Of.mono _ _ k r h) e
    simp only [SV, SV26, rintA, digA, natA, unI_rowI, unB, unN, if_true, Option.bind_some]
    rw [p]
    rfl
  · cases h
noncomputable def ZLong : List AV → Option AV
  | [x0] => (unN .i64 x0).bind fun a0 => if -9223372036854775808 ≤ a0 ∧ a0 < 9223372036854775808 then some (rintA a0) else none
  | _ => none
theorem sZLong : GoodS (23, ZLong) := by
  intro xs r h
  simp only at h
  unfold ZLong at h
  split at h
  · obtain ⟨a0, h0, h⟩ := Option.bind_eq_some_iff.1 h
    rcases ite_some h with ⟨hc, h⟩ | ⟨hc, h⟩
    · cases h
      obtain rfl := unN_eq h0
      have e := RLong_f a0 hc.1 hc.2
      refine .inl (good23 _ _ ?_)
      have p := ev_pick (fun k r h => zelligeref04_Long.mono _ k r h) e
      simp only [SV, SV23, rintA, digA, natA, unI_rowI, unB, unN, if_true, Option.bind_some]
      rw [p]
      rfl
    · cases h
  · cases h
noncomputable def ZAdd : List AV → Option AV
  | [x0, x1] => (rintD 2000000 x0).bind fun a0 => (rintD 2000000 x1).bind fun a1 => some (rintA (a0 + a1))
  | _ => none
theorem sZAdd : GoodS (66, ZAdd) := by
  intro xs r h
  simp only at h
  unfold ZAdd at h
  split at h
  · obtain ⟨a0, h0, h⟩ := Option.bind_eq_some_iff.1 h
    obtain ⟨a1, h1, h⟩ := Option.bind_eq_some_iff.1 h
    cases h
    obtain ⟨rfl, d0⟩ := rintD_out h0
    have b0 := Sz_dig d0
    obtain ⟨rfl, d1⟩ := rintD_out h1
    have b1 := Sz_dig d1
    have e := RAdd4_f a0 a1 _ b0 b1 (by omega)
    refine .inl (good66 _ _ ?_)
    have p := ev_pick (fun k r h => zelligeref04_Add.mono _ _ _ _ k r h) e
    simp only [RI] at p
    simp only [SV, SV66, rintA, digA, natA, unI_rowI, unB, unN, if_true, Option.bind_some]
    rw [p]
    rfl
  · cases h
noncomputable def ZSub : List AV → Option AV
  | [x0, x1] => (rintD 2000000 x0).bind fun a0 => (rintD 2000000 x1).bind fun a1 => some (rintA (a0 - a1))
  | _ => none
theorem sZSub : GoodS (46, ZSub) := by
  intro xs r h
  simp only at h
  unfold ZSub at h
  split at h
  · obtain ⟨a0, h0, h⟩ := Option.bind_eq_some_iff.1 h
    obtain ⟨a1, h1, h⟩ := Option.bind_eq_some_iff.1 h
    cases h
    obtain ⟨rfl, d0⟩ := rintD_out h0
    have b0 := Sz_dig d0
    obtain ⟨rfl, d1⟩ := rintD_out h1
    have b1 := Sz_dig d1
    have e := RSub4_f a0 a1 _ b0 b1 (by omega)
    refine .inl (good46 _ _ ?_)
    have p := ev_pick (fun k r h => zelligeref04_Sub.mono _ _ _ _ k r h) e
    simp only [RI] at p
    simp only [SV, SV46, rintA, digA, natA, unI_rowI, unB, unN, if_true, Option.bind_some]
    rw [p]
    rfl
  · cases h
noncomputable def ZCmp : List AV → Option AV
  | [x0, x1] => (rintD 2000000 x0).bind fun a0 => (rintD 2000000 x1).bind fun a1 => some (.int .i64 (cmpZ a0 a1))
  | _ => none
theorem sZCmp : GoodS (22, ZCmp) := by
  intro xs r h
  simp only at h
  unfold ZCmp at h
  split at h
  · obtain ⟨a0, h0, h⟩ := Option.bind_eq_some_iff.1 h
    obtain ⟨a1, h1, h⟩ := Option.bind_eq_some_iff.1 h
    cases h
    obtain ⟨rfl, d0⟩ := rintD_out h0
    have b0 := Sz_dig d0
    obtain ⟨rfl, d1⟩ := rintD_out h1
    have b1 := Sz_dig d1
    have e := RCmp4_f a0 a1 _ b0 b1 (by omega)
    refine .inl (good22 _ _ ?_)
    have p := ev_pick (fun k r h => zelligeref04_Cmp.mono _ _ _ _ k r h) e
    simp only [RI] at p
    simp only [SV, SV22, rintA, digA, natA, unI_rowI, unB, unN, if_true, Option.bind_some]
    rw [p]
    rfl
  · cases h
noncomputable def ZNeg : List AV → Option AV
  | [x0] => (rintD 2000000 x0).bind fun a0 => some (rintA (-a0))
  | _ => none
theorem sZNeg : GoodS (67, ZNeg) := by
  intro xs r h
  simp only at h
  unfold ZNeg at h
  split at h
  · obtain ⟨a0, h0, h⟩ := Option.bind_eq_some_iff.1 h
    cases h
    obtain ⟨rfl, d0⟩ := rintD_out h0
    have b0 := Sz_dig d0
    have e := RNeg_f a0
    refine .inl (good67 _ _ ?_)
    have p := e
    simp only [RI] at p
    simp only [SV, SV67, rintA, digA, natA, unI_rowI, unB, unN, if_true, Option.bind_some]
    rw [p]
    rfl
  · cases h
attribute [simp] NTrim NGcd NAdd NCmp NShow NDivMod WNorm WAdd WNeg WSign WShow WFloor DOf DGcd DCmp DDivMod ZOf ZLong ZAdd ZSub ZCmp ZNeg
open Classical in
noncomputable def DSame : List AV → Option AV
  | [x, y] => (digD 2000000 y).bind fun n => if x = natA n then some (.bool true) else none
  | _ => none
theorem sDSame : GoodS (28, DSame) := by
  intro xs r h
  simp only at h
  unfold DSame at h
  split at h
  · obtain ⟨n, h1, h⟩ := Option.bind_eq_some_iff.1 h
    split at h
    · rename_i hc
      cases h
      obtain ⟨rfl, b⟩ := digD_out h1
      subst hc
      have p := ev_pick (fun k r h => zelligeref03_Same.mono _ _ k r h) (RSame_f n (by omega) (Nat.lt_of_le_of_lt (NB_of_dig b) (by omega)))
      refine .inl (good28 _ _ ?_)
      simp only [SV, SV28, digA, natA, unI_rowI, Option.bind_some]
      rw [p]
      rfl
    · cases h
  · cases h
open Classical in
noncomputable def ZSame : List AV → Option AV
  | [x, y] => (rintD 2000000 y).bind fun z => if x = intA z then some (.bool true) else none
  | _ => none
theorem sZSame : GoodS (27, ZSame) := by
  intro xs r h
  simp only at h
  unfold ZSame at h
  split at h
  · obtain ⟨z, h1, h⟩ := Option.bind_eq_some_iff.1 h
    split at h
    · rename_i hc
      cases h
      obtain ⟨rfl, b⟩ := rintD_out h1
      subst hc
      have p := ev_pick (fun k r h => zelligeref04_Same.mono _ _ _ _ k r h) (RSame4_f z _ (Sz_dig b) (by omega))
      refine .inl (good27 _ _ ?_)
      simp only [IC, RI] at p
      simp only [SV, SV27, intA, rintA, digA, natA, unI_rowI, unB, unN, if_true, Option.bind_some]
      rw [p]
      rfl
    · cases h
  · cases h
attribute [simp] DSame ZSame callS
end Go.Proofs.Ythkiklpcglogpaa.ZRat
/- Fractions' rows; lemmas for the walks of fractions. -/
namespace Go.Proofs.Ythkiklpcglogpaa.ZRat
open Go.RowKit Go.Proofs.Ythkiklpcglogpaa.Wd
open Go Go.Proofs.Ythkiklpcglogpaa.Ab Go.Proofs Go.Proofs.Ythkiklpcglogpaa.Num Go.Proofs.Ythkiklpcglogpaa.ZRatP
set_option linter.unusedSimpArgs false
set_option linter.unusedVariables false
theorem NB1 : NB 4294967296 1 = [1] := by rw [NB_pos (by omega) (by omega)]; simp [NB_zero]
theorem ratA_zero : ratA 0 = .agg [.bool false, .row 0 [], .row 1 [.int .u32 1]] := by
  unfold ratA natA
  simp [NB_zero, NB1]
theorem ratA_mk (z : Int) (d : Nat) (hd : d ≠ 0) : ratA (mkRat z d) = .agg [.bool (decide (z < 0)), natA (z.natAbs / Nat.gcd z.natAbs d), natA (d / Nat.gcd z.natAbs d)] := by
  unfold ratA
  rw [Rat.num_mkRat, Rat.den_mkRat, if_neg hd, if_neg hd, Nat.gcd_comm d]
  have hg : 0 < Nat.gcd z.natAbs d := Nat.gcd_pos_of_pos_right _ (by omega)
  have hv : ((Nat.gcd z.natAbs d : Nat) : Int) ∣ z := Int.ofNat_dvd_left.2 (Nat.gcd_dvd_left _ _)
  generalize Nat.gcd z.natAbs d = g at *
  obtain ⟨c, rfl⟩ := hv
  have e1 : ((g : Int) * c) / (g : Int) = c := Int.mul_ediv_cancel_left _ (by omega)
  have e2 : ((g : Int) * c).natAbs / g = c.natAbs := by rw [Int.natAbs_mul, Int.natAbs_natCast, Nat.mul_div_cancel_left _ hg]
  have e3 : decide ((g : Int) * c < 0) = decide (c < 0) := by
    by_cases hc : c < 0
    · rw [decide_eq_true hc, decide_eq_true (Int.mul_neg_of_pos_of_neg (by omega) hc)]
    · rw [decide_eq_false hc, decide_eq_false (by have := Int.mul_nonneg (show (0 : Int) ≤ g by omega) (show 0 ≤ c by omega); omega)]
  rw [e1, e2, e3]
theorem lenB0 (n : Nat) : (((NB 4294967296 n).length : Int) == 0) = decide (n = 0) := by
  have := NB_len0 (b := 4294967296) (by omega) n
  by_cases h : n = 0
  · rw [decide_eq_true h]; simp [this.2 h]
  · rw [decide_eq_false h]; simp [this, h]
theorem lenD0' (n : Nat) : (((NB 65536 n).length : Int) == 0) = decide (n = 0) := by
  have := NB_len0 (b := 65536) (by omega) n
  by_cases h : n = 0
  · rw [decide_eq_true h]; simp [this.2 h]
  · rw [decide_eq_false h]; simp [this, h]
section
variable {L : List (FuncId × (List AV → Option AV))} {kt : List (Nat × List Nat)} {dt : List (Nat × List (List Nat × List Nat × Bool))}
theorem mkS_P : (mkS L kt dt).P = Try.prog := rfl
theorem mkS_ref {f : FuncId} : (mkS L kt dt).ref f = false := rfl
theorem mkS_call {f : FuncId} {xs : List AV} : (mkS L kt dt).call f xs = callS L f (xs.map wk) := rfl
theorem mkS_keep {i : Nat} : (mkS L kt dt).keep i = keepT kt i := rfl
theorem mkS_dep {i : Nat} : (mkS L kt dt).dep i = depT dt i := rfl
end
theorem VB0 : VB 4294967296 [] = 0 := rfl
theorem sign_beq (z : Int) : (z.sign == 0) = decide (z = 0) := by
  by_cases h : z = 0
  · subst h; rfl
  · rw [decide_eq_false h]; simp [Int.sign_eq_zero_iff_zero, h]
theorem litD {L : Nat} {x : Int} (h0 : 0 ≤ x) (h1 : x < 4294967296) (hL : 1 ≤ L) : natD L (.row 1 [.int .u32 x]) = some x.toNat := by
  have := natD_row (L := L) (l := [x]) (n := 1) rfl (WB_cons.2 ⟨⟨h0, h1⟩, WB_nil _⟩) hL
  simpa [VB] using this
theorem litC {L : Nat} {b : Bool} {x : Int} (h0 : 0 ≤ x) (h1 : x < 4294967296) (hL : 1 ≤ L) : intC L (.bool b) (.row 1 [.int .u32 x]) = some (if b = true then -x else x) := by
  have := intC_row (L := L) (l := [x]) (n := 1) (b := b) rfl (WB_cons.2 ⟨⟨h0, h1⟩, WB_nil _⟩) hL
  simp only [List.map_cons, List.map_nil] at this
  rw [this]
  unfold IVal
  simp only [VB]
  congr 1
  split <;> omega
noncomputable def ratP (L : Nat) : AV → Option (Int × Nat)
  | .agg [b, x, y] => (intC L b x).bind fun n => (natD L y).map fun d => (n, d)
  | _ => none
theorem ratP_out {L : Nat} {x : AV} {p : Int × Nat} (h : ratP L x = some p) : ∃ s l m, x = .agg [.bool s, rowI .u32 l, rowI .u32 m] ∧ WB 4294967296 l ∧ l.length ≤ L ∧ WB 4294967296 m ∧ m.length ≤ L ∧ p = (IVal s l, VB 4294967296 m) := by
  unfold ratP at h
  split at h
  · obtain ⟨n, hn, h⟩ := Option.bind_eq_some_iff.1 h
    obtain ⟨d, hd, rfl⟩ := Option.map_eq_some_iff.1 h
    obtain ⟨s, l, rfl, rfl, _, h1, h2, rfl⟩ := intC_out hn
    obtain ⟨m, rfl, _, h3, h4, rfl⟩ := natD_out hd
    exact ⟨s, l, m, rfl, h1, h2, h3, h4, rfl⟩
  · cases h
theorem rratD_out {L : Nat} {x : AV} {p : Int × Int} (h : rratD L x = some p) : x = rratA p.1 p.2 ∧ (NB 65536 p.1.natAbs).length ≤ L ∧ (NB 65536 p.2.natAbs).length ≤ L := by
  unfold rratD at h
  split at h
  · obtain ⟨n, hn, h⟩ := Option.bind_eq_some_iff.1 h
    obtain ⟨d, hd, rfl⟩ := Option.map_eq_some_iff.1 h
    obtain ⟨rfl, rfl, h1⟩ := rintC_out hn
    obtain ⟨rfl, rfl, h2⟩ := rintC_out hd
    exact ⟨rfl, h1, h2⟩
  · cases h
theorem nb_le {n m L : Nat} [h : SzN n m] (hm : m ≤ L) : (NB 4294967296 n).length ≤ L := Nat.le_trans (NB_length_le (by omega) n m h.lt) hm
theorem nb16_le {n m L : Nat} [h : SzN n m] (hm : 2 * m ≤ L) : (NB 65536 n).length ≤ L := Nat.le_trans (len16s n m h.lt).1 hm
theorem dig_half {n L : Nat} (h : (NB 65536 n).length ≤ L) : n < 4294967296 ^ ((L + 1) / 2) := by
  have h1 := NB_lt_length (b := 65536) (by omega) n
  have h2 : 65536 ^ (NB 65536 n).length ≤ 65536 ^ (2 * ((L + 1) / 2)) := Nat.pow_le_pow_right (by omega) (by omega)
  rw [pow_16] at h2
  exact Nat.lt_of_lt_of_le h1 h2
theorem SzI.dig {z : Int} {L : Nat} (h : (NB 65536 z.natAbs).length ≤ L) : SzI z ((L + 1) / 2) := ⟨dig_half h⟩
theorem SzN.dig {n : Nat} {L : Nat} (h : (NB 65536 n).length ≤ L) : SzN n ((L + 1) / 2) := ⟨dig_half h⟩
theorem SzI.rng {z : Int} (h : -9223372036854775808 ≤ z ∧ z < 9223372036854775808) : SzI z 2 := ⟨Sz_long h.1 (by omega)⟩
noncomputable def ratR (L : Nat) : AV → Option (Int × List Int)
  | .agg [b, x, y] => (intC L b x).bind fun n => (unI .u32 y).map fun l => (n, l)
  | _ => none
theorem ratR_out {L : Nat} {x : AV} {p : Int × List Int} (h : ratR L x = some p) : ∃ s l m, x = .agg [.bool s, rowI .u32 l, rowI .u32 m] ∧ WB 4294967296 l ∧ l.length ≤ L ∧ p = (IVal s l, m) := by
  unfold ratR at h
  split at h
  · obtain ⟨n, hn, h⟩ := Option.bind_eq_some_iff.1 h
    obtain ⟨d, hd, rfl⟩ := Option.map_eq_some_iff.1 h
    obtain ⟨s, l, rfl, rfl, _, h1, h2, rfl⟩ := intC_out hn
    obtain rfl := unI_eq hd
    exact ⟨s, l, d, rfl, h1, h2, rfl⟩
  · cases h
theorem mkadd (p q : Rat) : mkRat (p.num * (q.den : Int) + q.num * (p.den : Int)) (p.den * q.den) = p + q := (Rat.add_def' p q).symm
theorem mksub (p q : Rat) : mkRat (p.num * (q.den : Int) + -q.num * (p.den : Int)) (p.den * q.den) = p - q := by rw [Rat.sub_def', Int.neg_mul, Int.sub_eq_add_neg]
theorem mksub' (p q : Rat) : mkRat (p.num * (q.den : Int) + -(q.num * (p.den : Int))) (p.den * q.den) = p - q := by rw [Rat.sub_def', Int.sub_eq_add_neg]
theorem mkmul (p q : Rat) : mkRat (p.num * q.num) (p.den * q.den) = p * q := (Rat.mul_def' p q).symm
theorem mkdiv (p q : Rat) (h : q ≠ 0) : mkRat (if q.num < 0 then -(p.num * (q.den : Int)) else p.num * (q.den : Int)) (p.den * q.num.natAbs) = p / q := by
  have h0 : ¬ q.num = 0 := by rwa [Rat.num_eq_zero]
  rw [Rat.div_def, Rat.mul_def' p, Rat.num_inv, Rat.den_inv]
  by_cases hn : q.num < 0
  · rw [if_pos hn, if_neg h0, Int.sign_eq_neg_one_of_neg hn, Int.neg_mul, Int.one_mul, Int.mul_neg]
  · rw [if_neg hn, if_neg h0, Int.sign_eq_one_of_pos (by omega), Int.one_mul]
theorem mkquo (z w : Int) (h : w ≠ 0) : mkRat (if w < 0 then -z else z) w.natAbs = (z : Rat) / (w : Rat) := by
  rw [← Rat.divInt_eq_div]
  rcases Int.lt_trichotomy w 0 with hw | hw | hw
  · rw [if_pos hw, ← Rat.neg_divInt_neg, ← Rat.divInt_ofNat]
    congr 1; omega
  · exact absurd hw h
  · rw [if_neg (by omega), ← Rat.divInt_ofNat]
    congr 1; omega
theorem den0 (q : Rat) : (q.den = 0) = False := by simp [q.den_nz]
theorem num0 (q : Rat) : (q.num = 0) = (q = 0) := by rw [Rat.num_eq_zero]
def showP (n : Int) (d : Nat) : ByteArray := if d = 1 then showZ n else (showZ n ++ (⟨#[47]⟩ : ByteArray)) ++ showS d
def cmpQ (p q : Rat) : Int := cmpZ (p.num * (q.den : Int)) (q.num * (p.den : Int))
theorem showS_le {n j : Nat} (h : SzN n j) : (showS n).size ≤ 10 * (j + 1) := showS_size' n (j + 1) (h.up (by omega)) (by omega)
theorem showZ_le {z : Int} {j : Nat} (h : SzI z j) : (showZ z).size ≤ 10 * (j + 1) + 1 := by
  have h1 := showS_le (n := z.natAbs) (j := j) ⟨h.lt⟩
  unfold showZ
  split
  · rw [ByteArray.size_append]
    have : (ByteArray.mk #[45]).size = 1 := rfl
    omega
  · omega
theorem lowest_num (n : Int) (d : Nat) (hd : d ≠ 0) : (mkRat n d).num.sign = n.sign ∧ (mkRat n d).num.natAbs = n.natAbs / Nat.gcd n.natAbs d ∧ (mkRat n d).den = d / Nat.gcd n.natAbs d := by
  rw [Rat.num_mkRat, Rat.den_mkRat, if_neg hd, if_neg hd, Nat.gcd_comm d]
  have hg : 0 < Nat.gcd n.natAbs d := Nat.gcd_pos_of_pos_right _ (by omega)
  have hv : ((Nat.gcd n.natAbs d : Nat) : Int) ∣ n := Int.ofNat_dvd_left.2 (Nat.gcd_dvd_left _ _)
  generalize Nat.gcd n.natAbs d = g at *
  obtain ⟨c, rfl⟩ := hv
  have e1 : ((g : Int) * c) / (g : Int) = c := Int.mul_ediv_cancel_left _ (by omega)
  have e2 : ((g : Int) * c).natAbs / g = c.natAbs := by rw [Int.natAbs_mul, Int.natAbs_natCast, Nat.mul_div_cancel_left _ hg]
  rw [e1, e2, Int.sign_mul, Int.sign_eq_one_of_pos (by omega : (0 : Int) < g), Int.one_mul]
  exact ⟨rfl, rfl, rfl⟩
theorem sign_lt (z : Int) : (z.sign < 0) = (z < 0) := by
  rcases Int.lt_trichotomy z 0 with h | h | h
  · simp [Int.sign_eq_neg_one_of_neg h, h]
  · subst h; rfl
  · simp [Int.sign_eq_one_of_pos h]; omega
theorem IVal_false (l : List Int) : IVal false l = ((VB 4294967296 l : Nat) : Int) := rfl
theorem IVal_neg (z : Int) : IVal (decide (0 < z)) (NB 4294967296 z.natAbs) = -z := by
  have := IVal_can (-z)
  rw [Int.natAbs_neg] at this
  rwa [show decide (-z < 0) = decide (0 < z) from by congr 1; apply propext; omega] at this
theorem IVal_lt {s : Bool} {l : List Int} (h : IVal s l < 0) : s = true := by
  cases s
  · rw [IVal_false] at h; omega
  · rfl
theorem IVal_ge {s : Bool} {l : List Int} (h : ¬ IVal s l < 0) (h0 : ¬ IVal s l = 0) : s = false := by
  cases s
  · rfl
  · unfold IVal at h h0; simp only [if_true] at h h0; omega
theorem rintC_pos {L m n : Nat} (hn : m = (NB 65536 n).length) (hl : (NB 65536 n).length ≤ L) (h0 : 0 < n) : rintC L (.int .i64 1) (.row m ((NB 65536 n).map (.int .i64))) = some (n : Int) := by
  have h1 : ((n : Nat) : Int).sign = 1 := Int.sign_eq_one_of_pos (by omega)
  have := rintC_can (L := L) (z := (n : Int)) (m := m) (by simpa using hn) (by simpa using hl)
  rwa [h1, Int.natAbs_natCast] at this
theorem sgn2 : Int.sign 2 = 1 := rfl
theorem sgn3 : Int.sign 3 = 1 := rfl
theorem sgn4 : Int.sign 4 = 1 := rfl
theorem sgn16 : Int.sign 16 = 1 := rfl
noncomputable def ratX : AV → Option (Bool × List Int × List Int)
  | .agg [b, x, y] => (unB b).bind fun s => (unI .u32 x).bind fun l => (unI .u32 y).map fun m => (s, l, m)
  | _ => none
theorem ratX_out {x : AV} {p : Bool × List Int × List Int} (h : ratX x = some p) : x = .agg [.bool p.1, rowI .u32 p.2.1, rowI .u32 p.2.2] := by
  unfold ratX at h
  split at h
  · obtain ⟨s, hs, h⟩ := Option.bind_eq_some_iff.1 h
    obtain ⟨l, hl, h⟩ := Option.bind_eq_some_iff.1 h
    obtain ⟨m, hm, rfl⟩ := Option.map_eq_some_iff.1 h
    rw [unB_eq hs, unI_eq hl, unI_eq hm]
  · cases h
def rn (z : Int) (d : Nat) : Int := if d = 0 then 0 else z
def rD (d : Nat) : Int := if d = 0 then 1 else d
theorem rD_pos (d : Nat) : 0 < rD d := by unfold rD; split <;> omega
theorem rD_ne (d : Nat) : ¬ rD d = 0 := by have := rD_pos d; omega
theorem canonE (z : Int) (d : Nat) : mkRat (rn z d) (rD d).natAbs = mkRat z d := by
  unfold rn rD
  split
  · rename_i h; subst h; simp
  · simp
def floorQ (p : Rat) : Int := p.num.fdiv p.den
def roundQ (p : Rat) : Int := (p.num + p.num + p.den).fdiv ((p.den + p.den : Nat) : Int)
instance {p : Rat} {i : Nat} [SzQ p i] : SzI (floorQ p) (i + 1) := by
  have : SzI (p.num.fdiv p.den) (i + 1) := inferInstance
  exact this
instance {p : Rat} {i : Nat} [SzQ p i] : SzI (roundQ p) (i + i + 1 + i + 1 + 1) := by
  have : SzI ((p.num + p.num + p.den).fdiv ((p.den + p.den : Nat) : Int)) (i + i + 1 + i + 1 + 1) := inferInstance
  exact this
theorem addE {n1 n2 d1 d2 : Int} (h1 : 0 < d1) (h2 : 0 < d2) : mkRat (n1 * d2 + n2 * d1) (d1 * d2).natAbs = mkRat n1 d1.natAbs + mkRat n2 d2.natAbs := by
  rw [Rat.mkRat_add_mkRat _ _ (by omega) (by omega), Int.natAbs_mul, Int.natAbs_of_nonneg (by omega), Int.natAbs_of_nonneg (by omega)]
theorem negE (n d : Int) : mkRat (-n) d.natAbs = -mkRat n d.natAbs := (Rat.neg_mkRat n _).symm
theorem subE {n1 n2 d1 d2 : Int} (h1 : 0 < d1) (h2 : 0 < d2) : mkRat (n1 * d2 + -n2 * d1) (d1 * d2).natAbs = mkRat n1 d1.natAbs - mkRat n2 d2.natAbs := by
  rw [addE h1 h2, negE, Rat.sub_eq_add_neg]
theorem mulE {n1 n2 d1 d2 : Int} : mkRat (n1 * n2) (d1 * d2).natAbs = mkRat n1 d1.natAbs * mkRat n2 d2.natAbs := by
  rw [Rat.mkRat_mul_mkRat, Int.natAbs_mul]
theorem cmpE {n1 n2 d1 d2 : Int} (h1 : 0 < d1) (h2 : 0 < d2) : cmpZ (n1 * d2) (n2 * d1) = cmpQ (mkRat n1 d1.natAbs) (mkRat n2 d2.natAbs) := by
  have key : ∀ (a b : Int) (p q : Rat), p = mkRat a d1.natAbs → q = mkRat b d2.natAbs → (a * d2 < b * d1 ↔ p < q) := by
    intro a b p q hp hq
    have e1 : p * (d1 : Rat) = (a : Rat) := by
      rw [hp, Rat.mkRat_eq_div, show ((d1.natAbs : Nat) : Rat) = ((d1 : Int) : Rat) by rw [← Rat.intCast_natCast, Int.natAbs_of_nonneg (by omega)], Rat.div_mul_cancel (by rw [Ne, Rat.intCast_eq_zero_iff]; omega)]
    have e2 : q * (d2 : Rat) = (b : Rat) := by
      rw [hq, Rat.mkRat_eq_div, show ((d2.natAbs : Nat) : Rat) = ((d2 : Int) : Rat) by rw [← Rat.intCast_natCast, Int.natAbs_of_nonneg (by omega)], Rat.div_mul_cancel (by rw [Ne, Rat.intCast_eq_zero_iff]; omega)]
    have p1 : (0 : Rat) < (d1 : Rat) := Rat.intCast_pos.2 h1
    have p2 : (0 : Rat) < (d2 : Rat) := Rat.intCast_pos.2 h2
    rw [← Rat.intCast_lt_intCast, Rat.intCast_mul, Rat.intCast_mul, ← e1, ← e2]
    have c1 : p * (d1 : Rat) * (d2 : Rat) = p * ((d1 : Rat) * (d2 : Rat)) := Rat.mul_assoc ..
    have c2 : q * (d2 : Rat) * (d1 : Rat) = q * ((d1 : Rat) * (d2 : Rat)) := by rw [Rat.mul_assoc, Rat.mul_comm (d2 : Rat)]
    rw [c1, c2, Rat.mul_lt_mul_right (Rat.mul_pos p1 p2)]
  unfold cmpQ cmpZ
  have k1 := key n1 n2 _ _ rfl rfl
  have k2 : n2 * d1 < n1 * d2 ↔ mkRat n2 d2.natAbs < mkRat n1 d1.natAbs := by
    constructor
    · intro h
      rcases Classical.em (mkRat n2 d2.natAbs < mkRat n1 d1.natAbs) with q | q
      · exact q
      · exfalso
        rw [Rat.not_lt] at q
        rcases Rat.le_iff_lt_or_eq.1 q with q | q
        · have := k1.2 q; omega
        · have e : n1 * d2 = n2 * d1 := by
            have := (Rat.mkRat_eq_iff (by omega) (by omega)).1 q
            rwa [Int.natAbs_of_nonneg (by omega), Int.natAbs_of_nonneg (by omega)] at this
          omega
    · intro h
      rcases Int.lt_trichotomy (n2 * d1) (n1 * d2) with q | q | q
      · exact q
      · exfalso
        have e : mkRat n1 d1.natAbs = mkRat n2 d2.natAbs := (Rat.mkRat_eq_iff (by omega) (by omega)).2 (by rw [Int.natAbs_of_nonneg (by omega), Int.natAbs_of_nonneg (by omega)]; exact q.symm)
        rw [e] at h; exact Rat.lt_irrefl h
      · exfalso
        have e := Rat.le_antisymm (Rat.le_of_lt h) (Rat.le_of_lt (k1.1 q))
        rw [e] at h; exact Rat.lt_irrefl h
  simp only [← Rat.lt_iff, k1, k2]
instance {z : Int} {d i : Nat} [SzI z i] : SzI (rn z d) i := by
  have h : SzI (if d = 0 then (0 : Int) else z) (0 + i) := inferInstance
  rw [Nat.zero_add] at h
  exact h
instance {d j : Nat} [SzN d j] : SzI (rD d) (1 + j) := by
  have h : SzI (if d = 0 then (1 : Int) else (d : Int)) (1 + j) := inferInstance
  exact h
def cut (n : Nat) (l : List Int) : List Int := l.take n
theorem cut_le (n : Nat) (l : List Int) : (cut n l).length ≤ n := by rw [cut, List.length_take]; omega
theorem WB_cut {b : Nat} {l : List Int} (h : WB b l) (n : Nat) : WB b (cut n l) := WB_take h n
attribute [simp] ratX Call.operands sgn2 sgn3 sgn4 sgn16 rintC_pos litD litC IVal_neg IVal_false NB_zero ratR den0 NB1 ratP mkS_P mkS_ref mkS_call mkS_keep mkS_dep natA intA ratA digA rintA rratA intD ratD rintD rratD natD_row natD_nil intC_row intC_nil digD_row digD_nil rintC_can rintC_zero IVal_can IVal_nat VBN WBN NBlen NBlen16 lenB0 lenD0' lenN0 lenD0 sign_beq VB0
end Go.Proofs.Ythkiklpcglogpaa.ZRat
