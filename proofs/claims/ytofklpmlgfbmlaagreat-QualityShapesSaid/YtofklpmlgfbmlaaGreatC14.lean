/- Walks by the abstract run: the sort of three. -/
import Derived.Test.YtofklpmlgfbmlaaGreatC10
import Derived.Test.YtofklpmlgfbmlaaGreatC8
set_option linter.unusedVariables false
set_option linter.unusedSimpArgs false
namespace Go.Proofs.YtofklpmlgfbmlaaGreat.ZRat
open Go.RowKit Go.Proofs.YtofklpmlgfbmlaaGreat.Wd
open Go Go.Proofs.YtofklpmlgfbmlaaGreat.Ab Go.Proofs Go.Proofs.YtofklpmlgfbmlaaGreat.Num Go.Proofs.YtofklpmlgfbmlaaGreat.ZRatP
set_option linter.unusedSimpArgs false
set_option linter.unusedVariables false
set_option maxHeartbeats 8000000
set_option maxRecDepth 100000
noncomputable def WdCmp : List AV → Option AV
  | [x0, x1] => (wideD x0).bind fun a0 => (wideD x1).bind fun a1 => some (.int .i64 (cmpZ a0 a1))
  | _ => none
noncomputable def E_WdCmp : Env := mkS [] [] []
theorem run_WdCmp (a0 : Int) (b0 : -170141183460469231731687303715884105728 ≤ a0 ∧ a0 < 170141183460469231731687303715884105728) (a1 : Int) (b1 : -170141183460469231731687303715884105728 ≤ a1 ∧ a1 < 170141183460469231731687303715884105728) : AEnds E_WdCmp (finW Tryz.prog Tryz.f122.results) 0 [.code (Tryz.f122.body.getD .skip)] (startA Tryz.f122 [wideA a0, wideA a1] [] []) (.int .i64 (cmpZ a0 a1)) := by
  simp only [Tryz.f122, Option.getD_some, startA]
  simp only [wideA]
  unfold cmpZ
  have e1 : a0 = a0 / 18446744073709551616 * 18446744073709551616 + a0 % 18446744073709551616 := by omega
  have e2 : a1 = a1 / 18446744073709551616 * 18446744073709551616 + a1 % 18446744073709551616 := by omega
  have l0 : 0 ≤ a0 % 18446744073709551616 ∧ a0 % 18446744073709551616 < 18446744073709551616 := by omega
  have l1 : 0 ≤ a1 % 18446744073709551616 ∧ a1 % 18446744073709551616 < 18446744073709551616 := by omega
  generalize a0 / 18446744073709551616 = h at *
  generalize a1 / 18446744073709551616 = k at *
  generalize a0 % 18446744073709551616 = l at *
  generalize a1 % 18446744073709551616 = m at *
  clear b0 b1
  by_cases c1 : h = k
  · subst c1
    by_cases c2 : l = m
    · subst c2
      have g1 : ¬ a0 < a1 := by omega
      have g2 : a0 = a1 := by omega
      simp (maxSteps := 4000000) (disch := (first | with_reducible rfl | assumption | with_reducible exact WB_NB _ _ | (with_reducible refine nb_le ?_; omega) | (with_reducible refine nb16_le ?_; omega) | omega | (simp only [List.length_append, List.length_map, List.length_cons, List.length_nil, List.length_set, List.length_replicate, List.length_take, List.size_toArray]; omega))) [E_WdCmp, nilOp, g1, g2]
    · by_cases c3 : l < m
      · have g1 : a0 < a1 := by omega
        simp (maxSteps := 4000000) (disch := (first | with_reducible rfl | assumption | with_reducible exact WB_NB _ _ | (with_reducible refine nb_le ?_; omega) | (with_reducible refine nb16_le ?_; omega) | omega | (simp only [List.length_append, List.length_map, List.length_cons, List.length_nil, List.length_set, List.length_replicate, List.length_take, List.size_toArray]; omega))) [E_WdCmp, nilOp, c2, c3, g1]
      · have g1 : ¬ a0 < a1 := by omega
        have g2 : ¬ a0 = a1 := by omega
        simp (maxSteps := 4000000) (disch := (first | with_reducible rfl | assumption | with_reducible exact WB_NB _ _ | (with_reducible refine nb_le ?_; omega) | (with_reducible refine nb16_le ?_; omega) | omega | (simp only [List.length_append, List.length_map, List.length_cons, List.length_nil, List.length_set, List.length_replicate, List.length_take, List.size_toArray]; omega))) [E_WdCmp, nilOp, c2, c3, g1, g2]
  · by_cases c2 : h < k
    · have g1 : a0 < a1 := by omega
      simp (maxSteps := 4000000) (disch := (first | with_reducible rfl | assumption | with_reducible exact WB_NB _ _ | (with_reducible refine nb_le ?_; omega) | (with_reducible refine nb16_le ?_; omega) | omega | (simp only [List.length_append, List.length_map, List.length_cons, List.length_nil, List.length_set, List.length_replicate, List.length_take, List.size_toArray]; omega))) [E_WdCmp, nilOp, c1, c2, g1]
    · have g1 : ¬ a0 < a1 := by omega
      have g2 : ¬ a0 = a1 := by omega
      simp (maxSteps := 4000000) (disch := (first | with_reducible rfl | assumption | with_reducible exact WB_NB _ _ | (with_reducible refine nb_le ?_; omega) | (with_reducible refine nb16_le ?_; omega) | omega | (simp only [List.length_append, List.length_map, List.length_cons, List.length_nil, List.length_set, List.length_replicate, List.length_take, List.size_toArray]; omega))) [E_WdCmp, nilOp, c1, c2, g1, g2]
theorem sWdCmp : GoodS (122, WdCmp) := by
  intro xs r h
  simp only at h
  unfold WdCmp at h
  split at h
  · obtain ⟨a0, h0, h⟩ := Option.bind_eq_some_iff.1 h
    obtain ⟨a1, h1, h⟩ := Option.bind_eq_some_iff.1 h
    cases h
    obtain ⟨rfl, b0⟩ := wideD_out h0
    obtain ⟨rfl, b1⟩ := wideD_out h1
    exact .inl <| okW_ends (mkS_ok alls_nil) mixed Tryz.func122 rfl (by kernel_rfl : Fits Tryz.prog E_WdCmp.ref E_WdCmp.dep Tryz.f122 = true) (run_WdCmp _ b0 _ b1)
  · cases h
attribute [simp] WdCmp
end Go.Proofs.YtofklpmlgfbmlaaGreat.ZRat
namespace Go.Proofs.YtofklpmlgfbmlaaGreat.ZRat
open Go.RowKit Go.Proofs.YtofklpmlgfbmlaaGreat.Wd
open Go Go.Proofs.YtofklpmlgfbmlaaGreat.Ab Go.Proofs Go.Proofs.YtofklpmlgfbmlaaGreat.Num Go.Proofs.YtofklpmlgfbmlaaGreat.ZRatP
set_option linter.unusedSimpArgs false
set_option linter.unusedVariables false
set_option maxHeartbeats 8000000
set_option maxRecDepth 100000
/-- Functions that are handed a block, beside those by value. -/
noncomputable def mkR (L : List (FuncId × (List AV → Option AV))) (rf : FuncId) (sr : List AV → List Blk → List Bool → Option (AV × List Blk × List Bool)) (kt : List (Nat × List Nat)) (dt : List (Nat × List (List Nat × List Nat × Bool))) : Env := ⟨Tryz.prog, fun f => [rf].contains f, fun f xs => callS L f (xs.map wk), fun f xs h z => if f = rf then sr xs h z else none, keepT kt, depT dt, fun _ _ => none⟩
section
variable {L : List (FuncId × (List AV → Option AV))} {rf : FuncId} {sr : List AV → List Blk → List Bool → Option (AV × List Blk × List Bool)} {kt : List (Nat × List Nat)} {dt : List (Nat × List (List Nat × List Nat × Bool))} {f : FuncId} {xs : List AV} {h : List Blk} {z : List Bool} {i : Nat}
theorem mkR_P : (mkR L rf sr kt dt).P = Tryz.prog := rfl
theorem mkR_ref : (mkR L rf sr kt dt).ref f = [rf].contains f := rfl
theorem mkR_call : (mkR L rf sr kt dt).call f xs = callS L f (xs.map wk) := rfl
theorem mkR_callR : (mkR L rf sr kt dt).callR f xs h z = if f = rf then sr xs h z else none := rfl
theorem mkR_keep : (mkR L rf sr kt dt).keep i = keepT kt i := rfl
theorem mkR_dep : (mkR L rf sr kt dt).dep i = depT dt i := rfl
end
def GoodR0 (rf : FuncId) (sr : List AV → List Blk → List Bool → Option (AV × List Blk × List Bool)) : Prop := ∀ xs h z r h' z', sr xs h z = some (r, h', z') → OkR Tryz.prog rf xs h z r h' z'
theorem mkR_ok {L : List (FuncId × (List AV → Option AV))} {rf : FuncId} {sr : List AV → List Blk → List Bool → Option (AV × List Blk × List Bool)} {kt : List (Nat × List Nat)} {dt : List (Nat × List (List Nat × List Nat × Bool))} (h : ∀ p ∈ L, GoodS p) (hr : GoodR0 rf sr) : EnvOk (mkR L rf sr kt dt) Tryz.prog :=
  ⟨rfl, fun f xs r hc => OkF.wkA (callS_ok h hc), fun f xs h z v h' z' hc => (by
    rw [mkR_callR] at hc
    split at hc
    · rename_i e; subst e; exact hr _ _ _ _ _ _ hc
    · cases hc), fun _ _ _ h => by simp [mkR] at h⟩
attribute [simp] mkR_P mkR_ref mkR_call mkR_callR mkR_keep mkR_dep
def wcells (z : Int) : List AV := [.int .i64 (z / 18446744073709551616), .int .u64 (z % 18446744073709551616)]
def cells3 (a b c : Int) : List AV := [.int .i64 (a / 18446744073709551616), .int .u64 (a % 18446744073709551616), .int .i64 (b / 18446744073709551616), .int .u64 (b % 18446744073709551616), .int .i64 (c / 18446744073709551616), .int .u64 (c % 18446744073709551616)]
noncomputable def dec3 : List AV → Option (Int × Int × Int)
  | [a, b, c, d, e, f] => (wideD (.agg [a, b])).bind fun x => (wideD (.agg [c, d])).bind fun y => (wideD (.agg [e, f])).map fun z => (x, y, z)
  | _ => none
def bW (z : Int) : Prop := -170141183460469231731687303715884105728 ≤ z ∧ z < 170141183460469231731687303715884105728
theorem dec3_out {cs : List AV} {a b c : Int} (h : dec3 cs = some (a, b, c)) : cs = cells3 a b c ∧ bW a ∧ bW b ∧ bW c := by
  unfold dec3 at h
  split at h
  · obtain ⟨x, hx, h⟩ := Option.bind_eq_some_iff.1 h
    obtain ⟨y, hy, h⟩ := Option.bind_eq_some_iff.1 h
    obtain ⟨z, hz, h⟩ := Option.map_eq_some_iff.1 h
    simp only [Prod.mk.injEq] at h
    obtain ⟨rfl, rfl, rfl⟩ := h
    obtain ⟨e1, b1⟩ := wideD_out hx
    obtain ⟨e2, b2⟩ := wideD_out hy
    obtain ⟨e3, b3⟩ := wideD_out hz
    simp only [wideA, AV.agg.injEq, List.cons.injEq, and_true] at e1 e2 e3
    obtain ⟨rfl, rfl⟩ := e1
    obtain ⟨rfl, rfl⟩ := e2
    obtain ⟨rfl, rfl⟩ := e3
    exact ⟨rfl, b1, b2, b3⟩
  · cases h
theorem dec3_A {a b c : Int} (ha : bW a) (hb : bW b) (hc : bW c) : dec3 (cells3 a b c) = some (a, b, c) := by
  simp only [dec3, cells3, wideD_A a ha, wideD_A b hb, wideD_A c hc, Option.bind_some, Option.map_some]
/-- Three numbers, rising. -/
def srt3 (a b c : Int) : Int × Int × Int :=
  if b < a then (if c < a then (if c < b then (c, b, a) else (b, c, a)) else (b, a, c))
  else (if c < b then (if c < a then (c, a, b) else (a, c, b)) else (a, b, c))
theorem wrz : wrap64 0 = 0 := by decide +kernel
attribute [simp] wrz
theorem cmpZ_lt0 {a b : Int} (h : a < b) : cmpZ a b < 0 := by unfold cmpZ; rw [if_pos h]; omega
theorem cmpZ_nlt0 {a b : Int} (h : ¬ a < b) : ¬ cmpZ a b < 0 := by unfold cmpZ; rw [if_neg h]; split <;> omega
end Go.Proofs.YtofklpmlgfbmlaaGreat.ZRat
namespace Go.Proofs.YtofklpmlgfbmlaaGreat.ZRat
open Go.RowKit Go.Proofs.YtofklpmlgfbmlaaGreat.Wd
open Go Go.Proofs.YtofklpmlgfbmlaaGreat.Ab Go.Proofs Go.Proofs.YtofklpmlgfbmlaaGreat.Num Go.Proofs.YtofklpmlgfbmlaaGreat.ZRatP
set_option linter.unusedSimpArgs false
set_option linter.unusedVariables false
set_option maxHeartbeats 8000000
set_option maxRecDepth 100000
noncomputable def SIS : List AV → List Blk → List Bool → Option (AV × List Blk × List Bool)
  | [.own 0 0 3 2, .int .i64 0, .int .i64 3, .fn 122], [.arr cs], [false] => (dec3 cs).map fun p => (.tup [], [.arr (cells3 (srt3 p.1 p.2.1 p.2.2).1 (srt3 p.1 p.2.1 p.2.2).2.1 (srt3 p.1 p.2.1 p.2.2).2.2)], [false])
  | _, _, _ => none
noncomputable def E_SIS : Env := mkS [(122, WdCmp)] [(1, [0, 1, 2, 3, 8]), (4, [0, 1, 2, 3, 8, 9])] []
theorem run_SIS (a b c : Int) (ha : bW a) (hb : bW b) (hc : bW c) : AEnds E_SIS (finR Tryz.prog Tryz.f173.results) 1 [.code (Tryz.f173.body.getD .skip)] (startA Tryz.f173 [.own 0 0 3 2, .int .i64 0, .int .i64 3, .fn 122] [.arr (cells3 a b c)] [false]) (.tup [], [.arr (cells3 (srt3 a b c).1 (srt3 a b c).2.1 (srt3 a b c).2.2)], [false]) := by
  simp only [Tryz.f173, Option.getD_some, startA]
  have wa := wideD_A a ha
  have wb := wideD_A b hb
  have wc := wideD_A c hc
  clear ha hb hc
  unfold srt3
  by_cases h1 : b < a
  · have g1 := cmpZ_lt0 h1
    by_cases h2 : c < a
    · have g2 := cmpZ_lt0 h2
      by_cases h3 : c < b
      · have g3 := cmpZ_lt0 h3
        simp only [h1, h2, h3, if_true, if_false]
        simp only [cells3]
        generalize a / 18446744073709551616 = ah at *
        generalize a % 18446744073709551616 = al at *
        generalize b / 18446744073709551616 = bh at *
        generalize b % 18446744073709551616 = bl at *
        generalize c / 18446744073709551616 = ch at *
        generalize c % 18446744073709551616 = cl at *
        simp (maxSteps := 4000000) (disch := (first | with_reducible rfl | assumption | with_reducible exact WB_NB _ _ | (with_reducible refine nb_le ?_; omega) | (with_reducible refine nb16_le ?_; omega) | omega | (simp only [List.length_append, List.length_map, List.length_cons, List.length_nil, List.length_set, List.length_replicate, List.length_take, List.size_toArray]; omega))) [E_SIS, wa, wb, wc, g1, g2, g3]
        repeat
          (first | refine .loop ?_ | refine .again ?_)
          simp only [E_SIS, firstR, mkS_keep, mkR_keep, keepT, List.find?, Nat.reduceBEq, Option.map_some, Option.getD_some]
          simp (maxSteps := 4000000) (disch := (first | with_reducible rfl | assumption | with_reducible exact WB_NB _ _ | (with_reducible refine nb_le ?_; omega) | (with_reducible refine nb16_le ?_; omega) | omega | (simp only [List.length_append, List.length_map, List.length_cons, List.length_nil, List.length_set, List.length_replicate, List.length_take, List.size_toArray]; omega))) [E_SIS, wa, wb, wc, g1, g2, g3]
      · have g3 := cmpZ_nlt0 h3
        simp only [h1, h2, h3, if_true, if_false]
        simp only [cells3]
        generalize a / 18446744073709551616 = ah at *
        generalize a % 18446744073709551616 = al at *
        generalize b / 18446744073709551616 = bh at *
        generalize b % 18446744073709551616 = bl at *
        generalize c / 18446744073709551616 = ch at *
        generalize c % 18446744073709551616 = cl at *
        simp (maxSteps := 4000000) (disch := (first | with_reducible rfl | assumption | with_reducible exact WB_NB _ _ | (with_reducible refine nb_le ?_; omega) | (with_reducible refine nb16_le ?_; omega) | omega | (simp only [List.length_append, List.length_map, List.length_cons, List.length_nil, List.length_set, List.length_replicate, List.length_take, List.size_toArray]; omega))) [E_SIS, wa, wb, wc, g1, g2, g3]
        repeat
          (first | refine .loop ?_ | refine .again ?_)
          simp only [E_SIS, firstR, mkS_keep, mkR_keep, keepT, List.find?, Nat.reduceBEq, Option.map_some, Option.getD_some]
          simp (maxSteps := 4000000) (disch := (first | with_reducible rfl | assumption | with_reducible exact WB_NB _ _ | (with_reducible refine nb_le ?_; omega) | (with_reducible refine nb16_le ?_; omega) | omega | (simp only [List.length_append, List.length_map, List.length_cons, List.length_nil, List.length_set, List.length_replicate, List.length_take, List.size_toArray]; omega))) [E_SIS, wa, wb, wc, g1, g2, g3]
    · have g2 := cmpZ_nlt0 h2
      simp only [h1, h2, if_true, if_false]
      simp only [cells3]
      generalize a / 18446744073709551616 = ah at *
      generalize a % 18446744073709551616 = al at *
      generalize b / 18446744073709551616 = bh at *
      generalize b % 18446744073709551616 = bl at *
      generalize c / 18446744073709551616 = ch at *
      generalize c % 18446744073709551616 = cl at *
      simp (maxSteps := 4000000) (disch := (first | with_reducible rfl | assumption | with_reducible exact WB_NB _ _ | (with_reducible refine nb_le ?_; omega) | (with_reducible refine nb16_le ?_; omega) | omega | (simp only [List.length_append, List.length_map, List.length_cons, List.length_nil, List.length_set, List.length_replicate, List.length_take, List.size_toArray]; omega))) [E_SIS, wa, wb, wc, g1, g2]
      repeat
        (first | refine .loop ?_ | refine .again ?_)
        simp only [E_SIS, firstR, mkS_keep, mkR_keep, keepT, List.find?, Nat.reduceBEq, Option.map_some, Option.getD_some]
        simp (maxSteps := 4000000) (disch := (first | with_reducible rfl | assumption | with_reducible exact WB_NB _ _ | (with_reducible refine nb_le ?_; omega) | (with_reducible refine nb16_le ?_; omega) | omega | (simp only [List.length_append, List.length_map, List.length_cons, List.length_nil, List.length_set, List.length_replicate, List.length_take, List.size_toArray]; omega))) [E_SIS, wa, wb, wc, g1, g2]
  · have g1 := cmpZ_nlt0 h1
    by_cases h2 : c < b
    · have g2 := cmpZ_lt0 h2
      by_cases h3 : c < a
      · have g3 := cmpZ_lt0 h3
        simp only [h1, h2, h3, if_true, if_false]
        simp only [cells3]
        generalize a / 18446744073709551616 = ah at *
        generalize a % 18446744073709551616 = al at *
        generalize b / 18446744073709551616 = bh at *
        generalize b % 18446744073709551616 = bl at *
        generalize c / 18446744073709551616 = ch at *
        generalize c % 18446744073709551616 = cl at *
        simp (maxSteps := 4000000) (disch := (first | with_reducible rfl | assumption | with_reducible exact WB_NB _ _ | (with_reducible refine nb_le ?_; omega) | (with_reducible refine nb16_le ?_; omega) | omega | (simp only [List.length_append, List.length_map, List.length_cons, List.length_nil, List.length_set, List.length_replicate, List.length_take, List.size_toArray]; omega))) [E_SIS, wa, wb, wc, g1, g2, g3]
        repeat
          (first | refine .loop ?_ | refine .again ?_)
          simp only [E_SIS, firstR, mkS_keep, mkR_keep, keepT, List.find?, Nat.reduceBEq, Option.map_some, Option.getD_some]
          simp (maxSteps := 4000000) (disch := (first | with_reducible rfl | assumption | with_reducible exact WB_NB _ _ | (with_reducible refine nb_le ?_; omega) | (with_reducible refine nb16_le ?_; omega) | omega | (simp only [List.length_append, List.length_map, List.length_cons, List.length_nil, List.length_set, List.length_replicate, List.length_take, List.size_toArray]; omega))) [E_SIS, wa, wb, wc, g1, g2, g3]
      · have g3 := cmpZ_nlt0 h3
        simp only [h1, h2, h3, if_true, if_false]
        simp only [cells3]
        generalize a / 18446744073709551616 = ah at *
        generalize a % 18446744073709551616 = al at *
        generalize b / 18446744073709551616 = bh at *
        generalize b % 18446744073709551616 = bl at *
        generalize c / 18446744073709551616 = ch at *
        generalize c % 18446744073709551616 = cl at *
        simp (maxSteps := 4000000) (disch := (first | with_reducible rfl | assumption | with_reducible exact WB_NB _ _ | (with_reducible refine nb_le ?_; omega) | (with_reducible refine nb16_le ?_; omega) | omega | (simp only [List.length_append, List.length_map, List.length_cons, List.length_nil, List.length_set, List.length_replicate, List.length_take, List.size_toArray]; omega))) [E_SIS, wa, wb, wc, g1, g2, g3]
        repeat
          (first | refine .loop ?_ | refine .again ?_)
          simp only [E_SIS, firstR, mkS_keep, mkR_keep, keepT, List.find?, Nat.reduceBEq, Option.map_some, Option.getD_some]
          simp (maxSteps := 4000000) (disch := (first | with_reducible rfl | assumption | with_reducible exact WB_NB _ _ | (with_reducible refine nb_le ?_; omega) | (with_reducible refine nb16_le ?_; omega) | omega | (simp only [List.length_append, List.length_map, List.length_cons, List.length_nil, List.length_set, List.length_replicate, List.length_take, List.size_toArray]; omega))) [E_SIS, wa, wb, wc, g1, g2, g3]
    · have g2 := cmpZ_nlt0 h2
      simp only [h1, h2, if_true, if_false]
      simp only [cells3]
      generalize a / 18446744073709551616 = ah at *
      generalize a % 18446744073709551616 = al at *
      generalize b / 18446744073709551616 = bh at *
      generalize b % 18446744073709551616 = bl at *
      generalize c / 18446744073709551616 = ch at *
      generalize c % 18446744073709551616 = cl at *
      simp (maxSteps := 4000000) (disch := (first | with_reducible rfl | assumption | with_reducible exact WB_NB _ _ | (with_reducible refine nb_le ?_; omega) | (with_reducible refine nb16_le ?_; omega) | omega | (simp only [List.length_append, List.length_map, List.length_cons, List.length_nil, List.length_set, List.length_replicate, List.length_take, List.size_toArray]; omega))) [E_SIS, wa, wb, wc, g1, g2]
      repeat
        (first | refine .loop ?_ | refine .again ?_)
        simp only [E_SIS, firstR, mkS_keep, mkR_keep, keepT, List.find?, Nat.reduceBEq, Option.map_some, Option.getD_some]
        simp (maxSteps := 4000000) (disch := (first | with_reducible rfl | assumption | with_reducible exact WB_NB _ _ | (with_reducible refine nb_le ?_; omega) | (with_reducible refine nb16_le ?_; omega) | omega | (simp only [List.length_append, List.length_map, List.length_cons, List.length_nil, List.length_set, List.length_replicate, List.length_take, List.size_toArray]; omega))) [E_SIS, wa, wb, wc, g1, g2]
theorem goodSIS : GoodR0 173 SIS := by
  intro xs h z r h' z' hr
  unfold SIS at hr
  split at hr
  · obtain ⟨⟨a, b, c⟩, hp, hq⟩ := Option.map_eq_some_iff.1 hr
    obtain ⟨rfl, ha, hb, hc⟩ := dec3_out hp
    simp only [Prod.mk.injEq] at hq
    obtain ⟨rfl, rfl, rfl⟩ := hq
    exact okR_ends (mkS_ok (alls_cons sWdCmp alls_nil)) mixed Tryz.func173 rfl (by kernel_rfl : Fits Tryz.prog E_SIS.ref E_SIS.dep Tryz.f173 = true) (run_SIS a b c ha hb hc)
  · cases hr
attribute [simp] SIS
end Go.Proofs.YtofklpmlgfbmlaaGreat.ZRat
