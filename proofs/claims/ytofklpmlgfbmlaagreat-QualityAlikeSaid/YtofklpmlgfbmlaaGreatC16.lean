/- Walks by the abstract run: the reference of quality. -/
import Derived.Test.YtofklpmlgfbmlaaGreatC12
import Derived.Test.YtofklpmlgfbmlaaGreatC15
import Derived.Test.YtofklpmlgfbmlaaGreatC8
set_option linter.unusedVariables false
set_option linter.unusedSimpArgs false
namespace Go.Proofs.YtofklpmlgfbmlaaGreat.ZRat
open Go.RowKit Go.Proofs.YtofklpmlgfbmlaaGreat.Wd
open Go Go.Proofs.YtofklpmlgfbmlaaGreat.Ab Go.Proofs Go.Proofs.YtofklpmlgfbmlaaGreat.Num Go.Proofs.YtofklpmlgfbmlaaGreat.ZRatP
set_option linter.unusedSimpArgs false
set_option linter.unusedVariables false
set_option maxHeartbeats 8000000
set_option maxRecDepth 100000
theorem srt3_le (a b c : Int) : (srt3 a b c).1 ≤ (srt3 a b c).2.1 ∧ (srt3 a b c).2.1 ≤ (srt3 a b c).2.2 := by
  unfold srt3
  split <;> (split <;> (try split)) <;> simp <;> omega
theorem srt3_rot (a b c : Int) : srt3 b c a = srt3 a b c := by
  unfold srt3
  by_cases h1 : b < a <;> by_cases h2 : c < b <;> by_cases h3 : c < a <;> by_cases h4 : a < b <;> by_cases h5 : a < c <;> by_cases h6 : b < c <;> simp only [h1, h2, h3, h4, h5, h6, if_true, if_false, Prod.mk.injEq, true_and, and_true] <;> omega
theorem srt3_prod (a b c : Int) : (srt3 a b c).1 * (srt3 a b c).2.1 * (srt3 a b c).2.2 = a * b * c := by
  unfold srt3
  split <;> (split <;> (try split)) <;> simp <;> grind
def her (a b c : Int) : Int := 2 * (a * b + b * c + c * a) - (a * a + b * b + c * c)
theorem srt3_her (a b c : Int) : her (srt3 a b c).1 (srt3 a b c).2.1 (srt3 a b c).2.2 = her a b c := by
  unfold srt3 her
  split <;> (split <;> (try split)) <;> simp <;> grind
theorem heron (u v s t : Int) : 4 * ((u * t - v * s) * (u * t - v * s)) = her (u * u + v * v) ((s - u) * (s - u) + (t - v) * (t - v)) (s * s + t * t) := by
  unfold her; grind
theorem quarter3 {a b c : Int} (h : 0 ≤ a) (h0 : a ≤ b) (h1 : b ≤ c) : her a b c ≤ 3 * (b * c) := by
  have p1 : 0 ≤ c * (c - b) := Int.mul_nonneg (by omega) (by omega)
  have p2 : 0 ≤ (b - a) * (b + 2 * c - a) := Int.mul_nonneg (by omega) (by omega)
  have e : 3 * (b * c) - her a b c = c * (c - b) + (b - a) * (b + 2 * c - a) := by unfold her; grind
  omega
/-- Three numbers, rising, as the reference sorts them. -/
def sel3 (a b c : Int) : Int × Int × Int :=
  if b < a then (if c < b then (if b < a then (c, b, a) else (c, a, b)) else (if c < a then (b, c, a) else (b, a, c)))
  else (if c < a then (if a < b then (c, a, b) else (c, b, a)) else (if c < b then (a, c, b) else (a, b, c)))
theorem sel3_srt (a b c : Int) : sel3 a b c = srt3 a b c := by
  unfold sel3 srt3
  by_cases h1 : b < a <;> by_cases h2 : c < b <;> by_cases h3 : c < a <;> by_cases h4 : a < b <;> simp only [h1, h2, h3, h4, if_true, if_false, Prod.mk.injEq, true_and, and_true] <;> omega
def rint3 (a b c : Int) : AV := .agg [.int .i64 a.sign, digA a.natAbs, .int .i64 b.sign, digA b.natAbs, .int .i64 c.sign, digA c.natAbs]
attribute [simp] rint3
noncomputable def rint3D (L : Nat) : AV → Option (Int × Int × Int)
  | .agg [a, b, c, d, e, f] => (rintD L (.agg [a, b])).bind fun x => (rintD L (.agg [c, d])).bind fun y => (rintD L (.agg [e, f])).map fun z => (x, y, z)
  | _ => none
attribute [simp] rint3D
noncomputable def RTurns : List AV → Option AV
  | [x0, x1, x2] => (ptD x0).bind fun a0 => (ptD x1).bind fun a1 => (ptD x2).bind fun a2 => if (-9223372036854775808 ≤ a0.1 ∧ a0.1 < 9223372036854775808) ∧ (-9223372036854775808 ≤ a0.2 ∧ a0.2 < 9223372036854775808) ∧ (-9223372036854775808 ≤ a1.1 ∧ a1.1 < 9223372036854775808) ∧ (-9223372036854775808 ≤ a1.2 ∧ a1.2 < 9223372036854775808) ∧ (-9223372036854775808 ≤ a2.1 ∧ a2.1 < 9223372036854775808) ∧ (-9223372036854775808 ≤ a2.2 ∧ a2.2 < 9223372036854775808) then some (.bool (decide (turnC a0.1 a0.2 a1.1 a1.2 a2.1 a2.2))) else none
  | _ => none
noncomputable def E_RTurns : Env := mkS [(25, RCan), (54, ROrient)] [] []
theorem run_RTurns (x0 y0 : Int) (x1 y1 : Int) (x2 y2 : Int) (hc : (-9223372036854775808 ≤ x0 ∧ x0 < 9223372036854775808) ∧ (-9223372036854775808 ≤ y0 ∧ y0 < 9223372036854775808) ∧ (-9223372036854775808 ≤ x1 ∧ x1 < 9223372036854775808) ∧ (-9223372036854775808 ≤ y1 ∧ y1 < 9223372036854775808) ∧ (-9223372036854775808 ≤ x2 ∧ x2 < 9223372036854775808) ∧ (-9223372036854775808 ≤ y2 ∧ y2 < 9223372036854775808)) : AEnds E_RTurns (finW Tryz.prog Tryz.f28.results) 0 [.code (Tryz.f28.body.getD .skip)] (startA Tryz.f28 [.agg [.int .i64 x0, .int .i64 y0], .agg [.int .i64 x1, .int .i64 y1], .agg [.int .i64 x2, .int .i64 y2]] [] []) (.bool (decide (turnC x0 y0 x1 y1 x2 y2))) := by
  simp only [Tryz.f28, Option.getD_some, startA]
  obtain ⟨hx0, hy0, hx1, hy1, hx2, hy2⟩ := hc
  unfold turnC
  by_cases h0 : canP x0 y0
  · by_cases h1 : canP x1 y1
    · by_cases h2 : canP x2 y2
      · by_cases hz : 0 < crossZ x0 y0 x1 y1 x2 y2
        · have hs : (crossZ x0 y0 x1 y1 x2 y2).sign = 1 := Int.sign_eq_one_of_pos hz
          simp (maxSteps := 4000000) (disch := (first | with_reducible rfl | assumption | with_reducible exact WB_NB _ _ | (with_reducible refine nb_le ?_; omega) | (with_reducible refine nb16_le ?_; omega) | omega | (simp only [List.length_append, List.length_map, List.length_cons, List.length_nil, List.length_set, List.length_replicate, List.length_take, List.size_toArray]; omega))) [E_RTurns, h0, h1, h2, hz, hs, hx0, hy0, hx1, hy1, hx2, hy2]
        · have hs : ¬ (crossZ x0 y0 x1 y1 x2 y2).sign = 1 := fun h => hz (Int.sign_eq_one_iff_pos.1 h)
          simp (maxSteps := 4000000) (disch := (first | with_reducible rfl | assumption | with_reducible exact WB_NB _ _ | (with_reducible refine nb_le ?_; omega) | (with_reducible refine nb16_le ?_; omega) | omega | (simp only [List.length_append, List.length_map, List.length_cons, List.length_nil, List.length_set, List.length_replicate, List.length_take, List.size_toArray]; omega))) [E_RTurns, h0, h1, h2, hz, hs, hx0, hy0, hx1, hy1, hx2, hy2]
      · simp (maxSteps := 4000000) (disch := (first | with_reducible rfl | assumption | with_reducible exact WB_NB _ _ | (with_reducible refine nb_le ?_; omega) | (with_reducible refine nb16_le ?_; omega) | omega | (simp only [List.length_append, List.length_map, List.length_cons, List.length_nil, List.length_set, List.length_replicate, List.length_take, List.size_toArray]; omega))) [E_RTurns, h0, h1, h2, hx0, hy0, hx1, hy1, hx2, hy2]
    · simp (maxSteps := 4000000) (disch := (first | with_reducible rfl | assumption | with_reducible exact WB_NB _ _ | (with_reducible refine nb_le ?_; omega) | (with_reducible refine nb16_le ?_; omega) | omega | (simp only [List.length_append, List.length_map, List.length_cons, List.length_nil, List.length_set, List.length_replicate, List.length_take, List.size_toArray]; omega))) [E_RTurns, h0, h1, hx0, hy0, hx1, hy1, hx2, hy2]
  · simp (maxSteps := 4000000) (disch := (first | with_reducible rfl | assumption | with_reducible exact WB_NB _ _ | (with_reducible refine nb_le ?_; omega) | (with_reducible refine nb16_le ?_; omega) | omega | (simp only [List.length_append, List.length_map, List.length_cons, List.length_nil, List.length_set, List.length_replicate, List.length_take, List.size_toArray]; omega))) [E_RTurns, h0, hx0, hy0, hx1, hy1, hx2, hy2]
theorem sRTurns : GoodS (28, RTurns) := by
  intro xs r h
  simp only at h
  unfold RTurns at h
  split at h
  · obtain ⟨a0, h0, h⟩ := Option.bind_eq_some_iff.1 h
    obtain ⟨a1, h1, h⟩ := Option.bind_eq_some_iff.1 h
    obtain ⟨a2, h2, h⟩ := Option.bind_eq_some_iff.1 h
    split at h
    · rename_i hc
      cases h
      (obtain ⟨x0, y0⟩ := a0); (obtain rfl := ptD_out h0)
      (obtain ⟨x1, y1⟩ := a1); (obtain rfl := ptD_out h1)
      (obtain ⟨x2, y2⟩ := a2); (obtain rfl := ptD_out h2)
      exact .inl <| okW_ends (mkS_ok (alls_cons sRCan (alls_cons sROrient alls_nil))) mixed Tryz.func28 rfl (by kernel_rfl : Fits Tryz.prog E_RTurns.ref E_RTurns.dep Tryz.f28 = true) (run_RTurns _ _ _ _ _ _ hc)
    · cases h
  · cases h
attribute [simp] RTurns
noncomputable def RAngle : List AV → Option AV
  | [x0] => (rint3D 1000 x0).bind fun a0 => some (.int .i64 (cmpZ a0.2.2 (a0.1 + a0.2.1)))
  | _ => none
attribute [simp] RAngle
end Go.Proofs.YtofklpmlgfbmlaaGreat.ZRat
