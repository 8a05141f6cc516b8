/- Texts of numbers. -/
import Derived.Test.YtofklpmlgfbmlaaGreatC2
import Derived.Test.YtofklpmlgfbmlaaGreatC7
import Derived.Test.YtofklpmlgfbmlaaGreatC8
import Derived.Test.YtofklpmlgfbmlaaGreatC9
set_option linter.unusedVariables false
set_option linter.unusedSimpArgs false
/- The reference's Trim, by reference. -/
namespace Go.Proofs.YtofklpmlgfbmlaaGreat.ZRat
open Go.RowKit Go.Proofs.YtofklpmlgfbmlaaGreat.Wd
open Go Go.Proofs.YtofklpmlgfbmlaaGreat.Ab Go.Proofs
set_option linter.unusedSimpArgs false
set_option linter.unusedVariables false
set_option maxHeartbeats 4000000
set_option maxRecDepth 10000
theorem dtrim_l0_pre : ∀ (k : Nat) (l : List Int) (x : Int) (r : List Int), zelligeref03_Trim.l0 k l x = some r → ∃ n, n ≤ l.length ∧ r = l.take n
  | 0, _, _, _, h => by simp [zelligeref03_Trim.l0] at h
  | k + 1, l, x, r, h => by
    have ih := dtrim_l0_pre k l
    simp only [zelligeref03_Trim.l0] at h
    repeat' split at h
    all_goals first | (simp only [reduceCtorEq] at h; done) | (with_reducible obtain rfl := Option.some.inj h; exact ⟨_, by omega, rfl⟩) | exact ih _ _ h
theorem dtrim_pre {k : Nat} {l r : List Int} (h : zelligeref03_Trim.f k l = some r) : ∃ t, l = r ++ t := by
  obtain ⟨n, _, rfl⟩ := dtrim_l0_pre k l _ r h
  exact ⟨l.drop n, (List.take_append_drop n l).symm⟩
theorem n116R_ls (T : List AV) (r : (List Int)) (k : Nat) : (∀ (x0 : List Int) (x3 : Int), zelligeref03_Trim.l0 k x0 x3 = some r → AEnds E116 (finR Tryz.prog Tryz.f116.results) 1 (atLoop Tryz.f116 2) ⟨fr 21 [(0, .own 0 0 x0.length 1), (3, .int .i64 x3)], [.arr (x0.map (.int .i64) ++ T)], [false]⟩ (.own 0 0 r.length 1, [.arr (x0.map (.int .i64) ++ T)], [false])) := by
  induction k using Nat.strongRecOn with
  | _ k ih =>
  intro x0 x3 h
  cases k with
  | zero => simp [zelligeref03_Trim.l0] at h
  | succ k1 =>
  simp only [zelligeref03_Trim.l0] at h
  simp only [Tryz.f116, atLoop, seek, firstR, reduceIte, Option.getD_some, Nat.reduceEqDiff]
  rcases ite_some h with ⟨c2, h⟩ | ⟨c2, h⟩
  · rcases ite_some h with ⟨c3, h⟩ | ⟨c3, h⟩
    · rcases ite_some h with ⟨c4, h⟩ | ⟨c4, h⟩
      · rcases ite_some h with ⟨c5, h⟩ | ⟨c5, h⟩
        · simp (maxSteps := 2000000) (disch := (first | omega | (simp only [List.length_append, List.length_map, List.length_cons, List.length_nil, List.length_set, List.length_replicate, List.length_take, List.size_toArray]; omega))) [E116, c2, c3, c4, c5]
          refine AEnds.againS ((ih k1 (by omega)) _ _  h) ?_
          simp only [E116, firstR, mk_keep, keepT, List.find?, Nat.reduceBEq, Option.map_some, Option.getD_some]
          simp (maxSteps := 2000000) (disch := (first | omega | (simp only [List.length_append, List.length_map, List.length_cons, List.length_nil, List.length_set, List.length_replicate, List.length_take, List.size_toArray]; omega))) [E116, c2, c3, c4, c5]
          try omega
        · rcases ite_some h with ⟨c6, h⟩ | ⟨c6, h⟩
          · rcases ite_some h with ⟨c7, h⟩ | ⟨c7, h⟩
            · obtain rfl := Option.some.inj h
              simp (maxSteps := 2000000) (disch := (first | omega | (simp only [List.length_append, List.length_map, List.length_cons, List.length_nil, List.length_set, List.length_replicate, List.length_take, List.size_toArray]; omega))) [E116, c2, c3, c4, c5, c6, c7]
              try omega
            · cases h
          · cases h
      · cases h
    · cases h
  · rcases ite_some h with ⟨c8, h⟩ | ⟨c8, h⟩
    · rcases ite_some h with ⟨c9, h⟩ | ⟨c9, h⟩
      · obtain rfl := Option.some.inj h
        simp (maxSteps := 2000000) (disch := (first | omega | (simp only [List.length_append, List.length_map, List.length_cons, List.length_nil, List.length_set, List.length_replicate, List.length_take, List.size_toArray]; omega))) [E116, c2, c8, c9]
        try omega
      · cases h
    · cases h
theorem n116R_run (T : List AV) (k : Nat) (l0 : List Int) (r : (List Int)) (h : zelligeref03_Trim.f k l0 = some r) : AEnds E116 (finR Tryz.prog Tryz.f116.results) 1 [.code (Tryz.f116.body.getD .skip)] (startA Tryz.f116 [.own 0 0 l0.length 1] [.arr (l0.map (.int .i64) ++ T)] [false]) (.own 0 0 r.length 1, [.arr (l0.map (.int .i64) ++ T)], [false]) := by
  unfold zelligeref03_Trim.f at h
  simp only [Tryz.f116, Option.getD_some, startA]
  simp (maxSteps := 2000000) (disch := (first | omega | (simp only [List.length_append, List.length_map, List.length_cons, List.length_nil, List.length_set, List.length_replicate, List.length_take, List.size_toArray]; omega))) [E116]
  refine AEnds.loopS (n116R_ls T _ _ _ _ h) ?_
  simp only [E116, firstR, mk_keep, keepT, List.find?, Nat.reduceBEq, Option.map_some, Option.getD_some]
  simp (maxSteps := 2000000) (disch := (first | omega | (simp only [List.length_append, List.length_map, List.length_cons, List.length_nil, List.length_set, List.length_replicate, List.length_take, List.size_toArray]; omega))) [E116]
noncomputable def SRD : List AV → List Blk → List Bool → Option (AV × List Blk × List Bool)
  | [.own 0 0 n 1], [.arr cs], [false] => (unC .i64 cs).bind fun l => if n ≤ l.length then (pick fun k => zelligeref03_Trim.f k (l.take n)).map fun r => (.own 0 0 r.length 1, [.arr cs], [false]) else none
  | _, _, _ => none
noncomputable def mkT (kt : List (Nat × List Nat)) (dt : List (Nat × List (List Nat × List Nat × Bool))) : Env := ⟨Tryz.prog, fun f => [116].contains f, fun _ _ => none, fun f xs h z => if [116].contains f then SRD xs h z else none, keepT kt, depT dt, fun _ _ => none⟩
section
variable {kt : List (Nat × List Nat)} {dt : List (Nat × List (List Nat × List Nat × Bool))}
theorem mkT_P : (mkT kt dt).P = Tryz.prog := rfl
theorem mkT_ref {f : FuncId} : (mkT kt dt).ref f = [116].contains f := rfl
theorem mkT_callR {f : FuncId} {xs : List AV} {h : List Blk} {z : List Bool} : (mkT kt dt).callR f xs h z = if [116].contains f then SRD xs h z else none := rfl
theorem mkT_keep {i : Nat} : (mkT kt dt).keep i = keepT kt i := rfl
theorem mkT_dep {i : Nat} : (mkT kt dt).dep i = depT dt i := rfl
theorem mkT_ok : EnvOk (mkT kt dt) Tryz.prog := by
  refine ⟨rfl, fun f xs r h => by simp [mkT] at h, fun f xs h z v h' z' hr => ?_, fun _ _ _ h => by simp [mkT] at h⟩
  simp only [mkT_callR] at hr
  split at hr
  · rename_i hc
    have hf : f = 116 := by simpa using hc
    subst hf
    unfold SRD at hr
    split at hr
    · rename_i n cs
      obtain ⟨l, hl, hr⟩ := Option.bind_eq_some_iff.1 hr
      split at hr
      · rename_i hn
        obtain ⟨q, hq, e⟩ := Option.map_eq_some_iff.1 hr
        obtain ⟨k, hk⟩ := of_pick hq
        have := n116R_run ((l.drop n).map (.int .i64)) k (l.take n) q hk
        rw [← List.map_append, List.take_append_drop, List.length_take, Nat.min_eq_left hn, ← unC_eq hl, e] at this
        exact okR_ends (mkE_ok all_nil all_nil) mixed Tryz.func116 rfl (by kernel_rfl : Fits Tryz.prog E116.ref E116.dep Tryz.f116 = true) this
      · cases hr
    · cases hr
  · cases hr
end
attribute [simp] SRD mkT_P mkT_ref mkT_callR mkT_keep mkT_dep
end Go.Proofs.YtofklpmlgfbmlaaGreat.ZRat
namespace Go.Proofs.YtofklpmlgfbmlaaGreat.ZRat
open Go.RowKit Go.Proofs.YtofklpmlgfbmlaaGreat.Wd
open Go Go.Proofs.YtofklpmlgfbmlaaGreat.Ab Go.Proofs
set_option linter.unusedSimpArgs false
set_option linter.unusedVariables false
set_option maxHeartbeats 4000000
set_option maxRecDepth 10000
noncomputable def E150 : Env := mkT [(2, [3, 4]), (5, [3, 4, 5, 6])] []
theorem n150_ls (r : (ByteArray)) (k : Nat) : (∀ (tl : List Int) (x3 : List Int) (x4 : ByteArray), zelligeref03_Show.l0 k x3 x4 = some r → AEnds E150 (finW Tryz.prog Tryz.f150.results) 0 (atLoop Tryz.f150 2) ⟨fr 47 [(3, .own 0 0 x3.length 1), (4, (.str x4))], [.arr ((x3 ++ tl).map (.int .i64))], [false]⟩ (.str r)) ∧ (∀ (tl : List Int) (x3 : List Int) (x4 : ByteArray) (x5 : Int) (x6 : Int), zelligeref03_Show.l1 k x3 x4 x5 x6 = some r → AEnds E150 (finW Tryz.prog Tryz.f150.results) 0 (atLoop Tryz.f150 5) ⟨fr 47 [(3, .own 0 0 x3.length 1), (4, (.str x4)), (5, (.int .i64 x5)), (6, (.int .i64 x6))], [.arr ((x3 ++ tl).map (.int .i64))], [false]⟩ (.str r)) := by
  induction k using Nat.strongRecOn with
  | _ k ih =>
  refine ⟨?_, ?_⟩
  · intro tl x3 x4 h
    cases k with
    | zero => simp [zelligeref03_Show.l0] at h
    | succ k1 =>
    simp only [zelligeref03_Show.l0] at h
    simp only [Tryz.f150, atLoop, seek, firstR, reduceIte, Option.getD_some, Nat.reduceEqDiff]
    replace h := ite_some h
    rcases h with ⟨c2, h⟩ | ⟨c2, h⟩
    · cases k1 with
      | zero => simp [zelligeref03_Show.j1] at h
      | succ k3 =>
      simp only [zelligeref03_Show.j1] at h
      replace h := ite_some h
      rcases h with ⟨c4, h⟩ | ⟨c4, h⟩
      · simp (maxSteps := 2000000) (disch := (first | omega | (simp only [List.length_append, List.length_map, List.length_cons, List.length_nil, List.length_set, List.length_replicate, List.length_take, List.size_toArray]; omega))) [E150, c2]
        refine AEnds.loopS ((ih k3 (by omega)).2 tl _ _ _ _  h) ?_
        simp only [E150, firstR, mkT_keep, keepT, List.find?, Nat.reduceBEq, Option.map_some, Option.getD_some]
        simp (maxSteps := 2000000) (disch := (first | omega | (simp only [List.length_append, List.length_map, List.length_cons, List.length_nil, List.length_set, List.length_replicate, List.length_take, List.size_toArray]; omega))) [E150, c2]
        try omega
      · simp at c4
    · cases k1 with
      | zero => simp [zelligeref03_Show.j1] at h
      | succ k5 =>
      simp only [zelligeref03_Show.j1] at h
      replace h := ite_some h
      rcases h with ⟨c6, h⟩ | ⟨c6, h⟩
      · try simp only [List.length_cons, List.length_nil, Nat.zero_add, Nat.reduceAdd] at c6
        simp (maxSteps := 2000000) (disch := (first | omega | (simp only [List.length_append, List.length_map, List.length_cons, List.length_nil, List.length_set, List.length_replicate, List.length_take, List.size_toArray]; omega))) [E150, c2, c6]
        refine AEnds.loopS ((ih k5 (by omega)).2 tl _ _ _ _  h) ?_
        simp only [E150, firstR, mkT_keep, keepT, List.find?, Nat.reduceBEq, Option.map_some, Option.getD_some]
        simp (maxSteps := 2000000) (disch := (first | omega | (simp only [List.length_append, List.length_map, List.length_cons, List.length_nil, List.length_set, List.length_replicate, List.length_take, List.size_toArray]; omega))) [E150, c2, c6]
        try omega
      · try simp only [List.length_cons, List.length_nil, Nat.zero_add, Nat.reduceAdd] at c6
        obtain rfl := Option.some.inj h
        simp (maxSteps := 2000000) (disch := (first | omega | (simp only [List.length_append, List.length_map, List.length_cons, List.length_nil, List.length_set, List.length_replicate, List.length_take, List.size_toArray]; omega))) [E150, c2, c6]
        try omega
  · intro tl x3 x4 x5 x6 h
    cases k with
    | zero => simp [zelligeref03_Show.l1] at h
    | succ k7 =>
    simp only [zelligeref03_Show.l1] at h
    simp only [Tryz.f150, atLoop, seek, firstR, reduceIte, Option.getD_some, Nat.reduceEqDiff]
    replace h := ite_some h
    rcases h with ⟨c8, h⟩ | ⟨c8, h⟩
    · replace h := ite_some h
      rcases h with ⟨c9, h⟩ | ⟨c9, h⟩
      · replace h := ite_some h
        rcases h with ⟨c10, h⟩ | ⟨c10, h⟩
        · simp (maxSteps := 2000000) (disch := (first | omega | (simp only [List.length_append, List.length_map, List.length_cons, List.length_nil, List.length_set, List.length_replicate, List.length_take, List.size_toArray]; omega))) [E150, c8, c9, c10]
          refine AEnds.againS ((ih k7 (by omega)).2 tl _ _ _ _  h) ?_
          simp only [E150, firstR, mkT_keep, keepT, List.find?, Nat.reduceBEq, Option.map_some, Option.getD_some]
          simp (maxSteps := 2000000) (disch := (first | omega | (simp only [List.length_append, List.length_map, List.length_cons, List.length_nil, List.length_set, List.length_replicate, List.length_take, List.size_toArray]; omega))) [E150, c8, c9, c10]
          try omega
        · cases h
      · cases h
    · replace h := Option.bind_eq_some_iff.1 h
      obtain ⟨t11, e12, h⟩ := h
      have p13 := pick_of (fun k r h => zelligeref03_Trim.mono _  k r h) e12
      obtain ⟨tlq14, q14⟩ := dtrim_pre e12
      subst q14
      replace h := ite_some h
      rcases h with ⟨c15, h⟩ | ⟨c15, h⟩
      · replace h := ite_some h
        rcases h with ⟨c16, h⟩ | ⟨c16, h⟩
        · replace h := ite_some h
          rcases h with ⟨c17, h⟩ | ⟨c17, h⟩
          · replace h := ite_some h
            rcases h with ⟨c18, h⟩ | ⟨c18, h⟩
            · try simp only [List.length_cons, List.length_nil, Nat.zero_add, Nat.reduceAdd] at c18
              have cN : (9223372036854775807 < ((((wrap64 (x5 + 1)).toNat - x5.toNat : Nat) : Int) + (x4.size : Int))) = False := by
                refine eq_false ?_
                simp only [ByteArray.size_extract] at c18
                have e10 : (⟨#[48, 49, 50, 51, 52, 53, 54, 55, 56, 57]⟩ : ByteArray).size = 10 := rfl
                rw [e10] at c18
                omega
              simp (maxSteps := 2000000) (disch := (first | omega | (simp only [List.length_append, List.length_map, List.length_cons, List.length_nil, List.length_set, List.length_replicate, List.length_take, List.size_toArray]; omega))) [E150, c8, p13, c15, c16, c17, c18, cN]
              refine AEnds.againS ((ih k7 (by omega)).1 (tlq14 ++ tl) _ _  h) ?_
              simp only [E150, firstR, mkT_keep, keepT, List.find?, Nat.reduceBEq, Option.map_some, Option.getD_some]
              simp (maxSteps := 2000000) (disch := (first | omega | (simp only [List.length_append, List.length_map, List.length_cons, List.length_nil, List.length_set, List.length_replicate, List.length_take, List.size_toArray]; omega))) [E150, c8, p13, c15, c16, c17, c18, cN]
              try omega
            · try simp only [List.length_cons, List.length_nil, Nat.zero_add, Nat.reduceAdd] at c18
              cases h
          · cases h
        · cases h
      · cases h
theorem n150_run (k : Nat) (l0 : List Int) (r : (ByteArray)) (h : zelligeref03_Show.f k l0 = some r) : AEnds E150 (finW Tryz.prog Tryz.f150.results) 0 [.code (Tryz.f150.body.getD .skip)] (startA Tryz.f150 [(rowI .i64 l0)] [] []) (.str r) := by
  unfold zelligeref03_Show.f at h
  simp only [Tryz.f150, Option.getD_some, startA]
  replace h := Option.bind_eq_some_iff.1 h
  obtain ⟨t19, e20, h⟩ := h
  obtain rfl := Option.some.inj e20
  replace h := ite_some h
  rcases h with ⟨c21, h⟩ | ⟨c21, h⟩
  · try simp only [List.length_cons, List.length_nil, Nat.zero_add, Nat.reduceAdd] at c21
    simp (maxSteps := 2000000) (disch := (first | omega | (simp only [List.length_append, List.length_map, List.length_cons, List.length_nil, List.length_set, List.length_replicate, List.length_take, List.size_toArray]; omega))) [E150, c21]
    refine AEnds.loopS ((n150_ls _ _).1 [] _ _  h) ?_
    simp only [E150, firstR, mkT_keep, keepT, List.find?, Nat.reduceBEq, Option.map_some, Option.getD_some]
    simp (maxSteps := 2000000) (disch := (first | omega | (simp only [List.length_append, List.length_map, List.length_cons, List.length_nil, List.length_set, List.length_replicate, List.length_take, List.size_toArray]; omega))) [E150, c21]
    try omega
  · try simp only [List.length_cons, List.length_nil, Nat.zero_add, Nat.reduceAdd] at c21
    cases h
end Go.Proofs.YtofklpmlgfbmlaaGreat.ZRat
namespace Go.Proofs.YtofklpmlgfbmlaaGreat.ZRat
open Go.RowKit Go.Proofs.YtofklpmlgfbmlaaGreat.Wd
open Go Go.Proofs.YtofklpmlgfbmlaaGreat.Ab Go.Proofs Go.Proofs.YtofklpmlgfbmlaaGreat.Num Go.Proofs.YtofklpmlgfbmlaaGreat.ZRatP
set_option linter.unusedSimpArgs false
set_option linter.unusedVariables false
set_option maxHeartbeats 8000000
set_option maxRecDepth 100000
noncomputable def DShow : List AV → Option AV
  | [x] => (digD 100000000 x).bind fun n => some (.str (showS n))
  | _ => none
theorem sDShow : GoodS (150, DShow) := by
  intro xs r h
  simp only at h
  unfold DShow at h
  split at h
  · obtain ⟨n, h0, h⟩ := Option.bind_eq_some_iff.1 h
    cases h
    obtain ⟨rfl, b⟩ := digD_out h0
    obtain ⟨k, hk⟩ := (RShow_f n (by omega)).rounds
    exact .inl <| okW_ends mkT_ok mixed Tryz.func150 rfl (by kernel_rfl : Fits Tryz.prog E150.ref E150.dep Tryz.f150 = true) (n150_run k _ _ hk)
  · cases h
attribute [simp] DShow
theorem showZ_nat (n : Nat) : showZ (n : Int) = showS n := by unfold showZ; rw [if_neg (by omega), Int.natAbs_natCast]
noncomputable def ZShow : List AV → Option AV
  | [x0] => (rintD 1000000 x0).bind fun a0 => some (.str (showZ a0))
  | _ => none
noncomputable def E_ZShow : Env := mkS [(150, DShow)] [] []
theorem run_ZShow (a0 : Int) (b0 : (NB 65536 a0.natAbs).length ≤ 1000000) : AEnds E_ZShow (finW Tryz.prog Tryz.f100.results) 0 [.code (Tryz.f100.body.getD .skip)] (startA Tryz.f100 [rintA a0] [] []) (.str (showZ a0)) := by
  haveI := SzI.dig b0
  simp only [Tryz.f100, Option.getD_some, startA]
  by_cases hs : a0 < 0
  · have z1 := showS_le (n := a0.natAbs) ⟨(SzI.dig (L := 1000000) b0).lt⟩
    simp (maxSteps := 4000000) (disch := (first | with_reducible rfl | assumption | with_reducible exact WB_NB _ _ | (with_reducible refine nb_le ?_; omega) | (with_reducible refine nb16_le ?_; omega) | omega | (simp only [List.length_append, List.length_map, List.length_cons, List.length_nil, List.length_set, List.length_replicate, List.length_take, List.size_toArray]; omega))) [E_ZShow, hs, showZ, sign_lt]
  · simp (maxSteps := 4000000) (disch := (first | with_reducible rfl | assumption | with_reducible exact WB_NB _ _ | (with_reducible refine nb_le ?_; omega) | (with_reducible refine nb16_le ?_; omega) | omega | (simp only [List.length_append, List.length_map, List.length_cons, List.length_nil, List.length_set, List.length_replicate, List.length_take, List.size_toArray]; omega))) [E_ZShow, hs, showZ, sign_lt]
theorem sZShow : GoodS (100, ZShow) := by
  intro xs r h
  simp only at h
  unfold ZShow at h
  split at h
  · obtain ⟨a0, h0, h⟩ := Option.bind_eq_some_iff.1 h
    cases h
    obtain ⟨rfl, b0⟩ := rintD_out h0
    exact .inl <| okW_ends (mkS_ok (alls_cons sDShow alls_nil)) mixed Tryz.func100 rfl (by kernel_rfl : Fits Tryz.prog E_ZShow.ref E_ZShow.dep Tryz.f100 = true) (run_ZShow _ b0)
  · cases h
attribute [simp] ZShow
noncomputable def FShow : List AV → Option AV
  | [x0] => (rratD 10000 x0).bind fun a0 => if a0.2 ≠ 0 then some (.str (showP (mkRat a0.1 a0.2.natAbs).num (mkRat a0.1 a0.2.natAbs).den)) else none
  | _ => none
noncomputable def E_FShow : Env := mkS [(63, FLow), (31, ZCmp), (41, ZLong), (100, ZShow)] [] []
theorem run_FShow (n0 d0 : Int) (b0 : (NB 65536 n0.natAbs).length ≤ 10000) (c0 : (NB 65536 d0.natAbs).length ≤ 10000) (hc : d0 ≠ 0) : AEnds E_FShow (finW Tryz.prog Tryz.f55.results) 0 [.code (Tryz.f55.body.getD .skip)] (startA Tryz.f55 [rratA n0 d0] [] []) (.str (showP (mkRat n0 d0.natAbs).num (mkRat n0 d0.natAbs).den)) := by
  haveI := SzI.dig b0
  haveI := SzI.dig c0
  simp only [Tryz.f55, Option.getD_some, startA]
  have hd : ¬ d0.natAbs = 0 := by omega
  haveI hQ : SzQ (mkRat n0 d0.natAbs) _ := inferInstance
  generalize hq : mkRat n0 d0.natAbs = q at *
  have hS : ((q.den : Nat) : Int).sign = 1 := Int.sign_eq_one_of_pos (by have := q.den_pos; omega)
  have hp : 0 < q.den := q.den_pos
  have z1 := showZ_le ⟨hQ.num⟩
  have z2 := showS_le ⟨hQ.den⟩
  by_cases h1 : q.den = 1
  · simp (maxSteps := 4000000) (disch := (first | with_reducible rfl | assumption | with_reducible exact WB_NB _ _ | (with_reducible refine nb_le ?_; omega) | (with_reducible refine nb16_le ?_; omega) | omega | (simp only [List.length_append, List.length_map, List.length_cons, List.length_nil, List.length_set, List.length_replicate, List.length_take, List.size_toArray]; omega))) [E_FShow, hc, hd, hq, h1, hS, showP, cmpZ]
  · have hc2 : ¬ cmpZ (q.den : Int) 1 = 0 := by unfold cmpZ; split <;> (try split) <;> omega
    simp (maxSteps := 4000000) (disch := (first | with_reducible rfl | assumption | with_reducible exact WB_NB _ _ | (with_reducible refine nb_le ?_; omega) | (with_reducible refine nb16_le ?_; omega) | omega | (simp only [List.length_append, List.length_map, List.length_cons, List.length_nil, List.length_set, List.length_replicate, List.length_take, List.size_toArray]; omega))) [E_FShow, hc, hd, hq, h1, hS, hc2, showP, showZ_nat]
theorem sFShow : GoodS (55, FShow) := by
  intro xs r h
  simp only at h
  unfold FShow at h
  split at h
  · obtain ⟨a0, h0, h⟩ := Option.bind_eq_some_iff.1 h
    split at h
    · rename_i hc
      cases h
      obtain ⟨rfl, b0, c0⟩ := rratD_out h0
      exact .inl <| okW_ends (mkS_ok (alls_cons sFLow (alls_cons sZCmp (alls_cons sZLong (alls_cons sZShow alls_nil))))) mixed Tryz.func55 rfl (by kernel_rfl : Fits Tryz.prog E_FShow.ref E_FShow.dep Tryz.f55 = true) (run_FShow _ _ b0 c0 hc)
    · cases h
  · cases h
attribute [simp] FShow
end Go.Proofs.YtofklpmlgfbmlaaGreat.ZRat
