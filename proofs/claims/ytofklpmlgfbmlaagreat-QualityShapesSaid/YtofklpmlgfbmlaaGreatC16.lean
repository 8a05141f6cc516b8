/- Walks by the abstract run: the reference of quality. -/
import Derived.Test.YtofklpmlgfbmlaaGreatC12
import Derived.Test.YtofklpmlgfbmlaaGreatC15
import Derived.Test.YtofklpmlgfbmlaaGreatC8
set_option linter.unusedVariables false
set_option linter.unusedSimpArgs false
namespace Go.Proofs.YtofklpmlgfbmlaaGreat.ZRat
open Go.RowKit Go.Proofs.YtofklpmlgfbmlaaGreat.Wd
open Go Go.Proofs.YtofklpmlgfbmlaaGreat.Ab Go.Proofs Go.Proofs.YtofklpmlgfbmlaaGreat.Num Go.Proofs.YtofklpmlgfbmlaaGreat.ZRatP
set_option linter.unusedSimpArgs false
set_option linter.unusedVariables false
set_option maxHeartbeats 8000000
set_option maxRecDepth 100000
theorem srt3_prod (a b c : Int) : (srt3 a b c).1 * (srt3 a b c).2.1 * (srt3 a b c).2.2 = a * b * c := by
  unfold srt3
  split <;> (split <;> (try split)) <;> simp <;> grind
/-- Three numbers, rising, as the reference sorts them. -/
def sel3 (a b c : Int) : Int × Int × Int :=
  if b < a then (if c < b then (if b < a then (c, b, a) else (c, a, b)) else (if c < a then (b, c, a) else (b, a, c)))
  else (if c < a then (if a < b then (c, a, b) else (c, b, a)) else (if c < b then (a, c, b) else (a, b, c)))
theorem sel3_srt (a b c : Int) : sel3 a b c = srt3 a b c := by
  unfold sel3 srt3
  by_cases h1 : b < a <;> by_cases h2 : c < b <;> by_cases h3 : c < a <;> by_cases h4 : a < b <;> simp only [h1, h2, h3, h4, if_true, if_false, Prod.mk.injEq, true_and, and_true] <;> omega
theorem cmpZ_sub (a b : Int) : cmpZ a b = (a - b).sign := by
  unfold cmpZ
  split
  · rw [Int.sign_eq_neg_one_of_neg (by omega)]
  · split
    · rw [Int.sign_eq_one_of_pos (by omega)]
    · rw [show a - b = 0 by omega]; rfl
def rint3 (a b c : Int) : AV := .agg [.int .i64 a.sign, digA a.natAbs, .int .i64 b.sign, digA b.natAbs, .int .i64 c.sign, digA c.natAbs]
attribute [simp] rint3
noncomputable def rint3D (L : Nat) : AV → Option (Int × Int × Int)
  | .agg [a, b, c, d, e, f] => (rintD L (.agg [a, b])).bind fun x => (rintD L (.agg [c, d])).bind fun y => (rintD L (.agg [e, f])).map fun z => (x, y, z)
  | _ => none
theorem rint3D_out {L : Nat} {x : AV} {a b c : Int} (h : rint3D L x = some (a, b, c)) : x = rint3 a b c ∧ (NB 65536 a.natAbs).length ≤ L ∧ (NB 65536 b.natAbs).length ≤ L ∧ (NB 65536 c.natAbs).length ≤ L := by
  unfold rint3D at h
  split at h
  · obtain ⟨x, hx, h⟩ := Option.bind_eq_some_iff.1 h
    obtain ⟨y, hy, h⟩ := Option.bind_eq_some_iff.1 h
    obtain ⟨z, hz, h⟩ := Option.map_eq_some_iff.1 h
    simp only [Prod.mk.injEq] at h
    obtain ⟨rfl, rfl, rfl⟩ := h
    obtain ⟨e1, b1⟩ := rintD_out hx
    obtain ⟨e2, b2⟩ := rintD_out hy
    obtain ⟨e3, b3⟩ := rintD_out hz
    unfold rintA at e1 e2 e3
    simp only [AV.agg.injEq, List.cons.injEq, and_true] at e1 e2 e3
    obtain ⟨rfl, rfl⟩ := e1
    obtain ⟨rfl, rfl⟩ := e2
    obtain ⟨rfl, rfl⟩ := e3
    exact ⟨rfl, b1, b2, b3⟩
  · cases h
attribute [simp] rint3D
noncomputable def RTurns : List AV → Option AV
  | [x0, x1, x2] => (ptD x0).bind fun a0 => (ptD x1).bind fun a1 => (ptD x2).bind fun a2 => if (-9223372036854775808 ≤ a0.1 ∧ a0.1 < 9223372036854775808) ∧ (-9223372036854775808 ≤ a0.2 ∧ a0.2 < 9223372036854775808) ∧ (-9223372036854775808 ≤ a1.1 ∧ a1.1 < 9223372036854775808) ∧ (-9223372036854775808 ≤ a1.2 ∧ a1.2 < 9223372036854775808) ∧ (-9223372036854775808 ≤ a2.1 ∧ a2.1 < 9223372036854775808) ∧ (-9223372036854775808 ≤ a2.2 ∧ a2.2 < 9223372036854775808) then some (.bool (decide (turnC a0.1 a0.2 a1.1 a1.2 a2.1 a2.2))) else none
  | _ => none
noncomputable def E_RTurns : Env := mkS [(25, RCan), (54, ROrient)] [] []
theorem run_RTurns (x0 y0 : Int) (x1 y1 : Int) (x2 y2 : Int) (hc : (-9223372036854775808 ≤ x0 ∧ x0 < 9223372036854775808) ∧ (-9223372036854775808 ≤ y0 ∧ y0 < 9223372036854775808) ∧ (-9223372036854775808 ≤ x1 ∧ x1 < 9223372036854775808) ∧ (-9223372036854775808 ≤ y1 ∧ y1 < 9223372036854775808) ∧ (-9223372036854775808 ≤ x2 ∧ x2 < 9223372036854775808) ∧ (-9223372036854775808 ≤ y2 ∧ y2 < 9223372036854775808)) : AEnds E_RTurns (finW Tryz.prog Tryz.f28.results) 0 [.code (Tryz.f28.body.getD .skip)] (startA Tryz.f28 [.agg [.int .i64 x0, .int .i64 y0], .agg [.int .i64 x1, .int .i64 y1], .agg [.int .i64 x2, .int .i64 y2]] [] []) (.bool (decide (turnC x0 y0 x1 y1 x2 y2))) := by
  simp only [Tryz.f28, Option.getD_some, startA]
  obtain ⟨hx0, hy0, hx1, hy1, hx2, hy2⟩ := hc
  unfold turnC
  by_cases h0 : canP x0 y0
  · by_cases h1 : canP x1 y1
    · by_cases h2 : canP x2 y2
      · by_cases hz : 0 < crossZ x0 y0 x1 y1 x2 y2
        · have hs : (crossZ x0 y0 x1 y1 x2 y2).sign = 1 := Int.sign_eq_one_of_pos hz
          simp (maxSteps := 4000000) (disch := (first | with_reducible rfl | assumption | with_reducible exact WB_NB _ _ | (with_reducible refine nb_le ?_; omega) | (with_reducible refine nb16_le ?_; omega) | omega | (simp only [List.length_append, List.length_map, List.length_cons, List.length_nil, List.length_set, List.length_replicate, List.length_take, List.size_toArray]; omega))) [E_RTurns, h0, h1, h2, hz, hs, hx0, hy0, hx1, hy1, hx2, hy2]
        · have hs : ¬ (crossZ x0 y0 x1 y1 x2 y2).sign = 1 := fun h => hz (Int.sign_eq_one_iff_pos.1 h)
          simp (maxSteps := 4000000) (disch := (first | with_reducible rfl | assumption | with_reducible exact WB_NB _ _ | (with_reducible refine nb_le ?_; omega) | (with_reducible refine nb16_le ?_; omega) | omega | (simp only [List.length_append, List.length_map, List.length_cons, List.length_nil, List.length_set, List.length_replicate, List.length_take, List.size_toArray]; omega))) [E_RTurns, h0, h1, h2, hz, hs, hx0, hy0, hx1, hy1, hx2, hy2]
      · simp (maxSteps := 4000000) (disch := (first | with_reducible rfl | assumption | with_reducible exact WB_NB _ _ | (with_reducible refine nb_le ?_; omega) | (with_reducible refine nb16_le ?_; omega) | omega | (simp only [List.length_append, List.length_map, List.length_cons, List.length_nil, List.length_set, List.length_replicate, List.length_take, List.size_toArray]; omega))) [E_RTurns, h0, h1, h2, hx0, hy0, hx1, hy1, hx2, hy2]
    · simp (maxSteps := 4000000) (disch := (first | with_reducible rfl | assumption | with_reducible exact WB_NB _ _ | (with_reducible refine nb_le ?_; omega) | (with_reducible refine nb16_le ?_; omega) | omega | (simp only [List.length_append, List.length_map, List.length_cons, List.length_nil, List.length_set, List.length_replicate, List.length_take, List.size_toArray]; omega))) [E_RTurns, h0, h1, hx0, hy0, hx1, hy1, hx2, hy2]
  · simp (maxSteps := 4000000) (disch := (first | with_reducible rfl | assumption | with_reducible exact WB_NB _ _ | (with_reducible refine nb_le ?_; omega) | (with_reducible refine nb16_le ?_; omega) | omega | (simp only [List.length_append, List.length_map, List.length_cons, List.length_nil, List.length_set, List.length_replicate, List.length_take, List.size_toArray]; omega))) [E_RTurns, h0, hx0, hy0, hx1, hy1, hx2, hy2]
theorem sRTurns : GoodS (28, RTurns) := by
  intro xs r h
  simp only at h
  unfold RTurns at h
  split at h
  · obtain ⟨a0, h0, h⟩ := Option.bind_eq_some_iff.1 h
    obtain ⟨a1, h1, h⟩ := Option.bind_eq_some_iff.1 h
    obtain ⟨a2, h2, h⟩ := Option.bind_eq_some_iff.1 h
    split at h
    · rename_i hc
      cases h
      (obtain ⟨x0, y0⟩ := a0); (obtain rfl := ptD_out h0)
      (obtain ⟨x1, y1⟩ := a1); (obtain rfl := ptD_out h1)
      (obtain ⟨x2, y2⟩ := a2); (obtain rfl := ptD_out h2)
      exact .inl <| okW_ends (mkS_ok (alls_cons sRCan (alls_cons sROrient alls_nil))) mixed Tryz.func28 rfl (by kernel_rfl : Fits Tryz.prog E_RTurns.ref E_RTurns.dep Tryz.f28 = true) (run_RTurns _ _ _ _ _ _ hc)
    · cases h
  · cases h
attribute [simp] RTurns
noncomputable def RAngle : List AV → Option AV
  | [x0] => (rint3D 1000 x0).bind fun a0 => some (.int .i64 (cmpZ a0.2.2 (a0.1 + a0.2.1)))
  | _ => none
noncomputable def E_RAngle : Env := mkS [(72, ZAdd), (31, ZCmp)] [] []
theorem run_RAngle (n0 m0 k0 : Int) (b0 : (NB 65536 n0.natAbs).length ≤ 1000 ∧ (NB 65536 m0.natAbs).length ≤ 1000 ∧ (NB 65536 k0.natAbs).length ≤ 1000) : AEnds E_RAngle (finW Tryz.prog Tryz.f33.results) 0 [.code (Tryz.f33.body.getD .skip)] (startA Tryz.f33 [rint3 n0 m0 k0] [] []) (.int .i64 (cmpZ k0 (n0 + m0))) := by
  haveI := SzI.dig b0.1
  haveI := SzI.dig b0.2.1
  haveI := SzI.dig b0.2.2
  simp only [Tryz.f33, Option.getD_some, startA]
  simp (maxSteps := 4000000) (disch := (first | with_reducible rfl | assumption | with_reducible exact WB_NB _ _ | (with_reducible refine nb_le ?_; omega) | (with_reducible refine nb16_le ?_; omega) | omega | (simp only [List.length_append, List.length_map, List.length_cons, List.length_nil, List.length_set, List.length_replicate, List.length_take, List.size_toArray]; omega))) [E_RAngle, -Int.sign_mul, -Int.sign_neg, -Int.natAbs_neg]
theorem sRAngle : GoodS (33, RAngle) := by
  intro xs r h
  simp only at h
  unfold RAngle at h
  split at h
  · obtain ⟨a0, h0, h⟩ := Option.bind_eq_some_iff.1 h
    cases h
    (obtain ⟨n0, m0, k0⟩ := a0); (obtain ⟨rfl, b0⟩ := rint3D_out h0)
    exact .inl <| okW_ends (mkS_ok (alls_cons sZAdd (alls_cons sZCmp alls_nil))) mixed Tryz.func33 rfl (by kernel_rfl : Fits Tryz.prog E_RAngle.ref E_RAngle.dep Tryz.f33 = true) (run_RAngle _ _ _ b0)
  · cases h
attribute [simp] RAngle
end Go.Proofs.YtofklpmlgfbmlaaGreat.ZRat
