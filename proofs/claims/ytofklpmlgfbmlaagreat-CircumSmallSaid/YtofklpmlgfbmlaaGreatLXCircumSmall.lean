/- Which circles are small against a side is as the document says. -/
import Derived.Test.YtofklpmlgfbmlaaGreatC11
import Derived.Test.YtofklpmlgfbmlaaGreatC12
import Derived.Test.YtofklpmlgfbmlaaGreatC13
import Derived.Test.YtofklpmlgfbmlaaGreatC8
import Derived.Test.YtofklpmlgfbmlaaGreatC9
set_option linter.unusedVariables false
set_option linter.unusedSimpArgs false
namespace Go.Proofs.YtofklpmlgfbmlaaGreat.ZRat
open Go.RowKit Go.Proofs.YtofklpmlgfbmlaaGreat.Wd
open Go Go.Proofs.YtofklpmlgfbmlaaGreat.Ab Go.Proofs Go.Proofs.YtofklpmlgfbmlaaGreat.Num Go.Proofs.YtofklpmlgfbmlaaGreat.ZRatP
set_option linter.unusedSimpArgs false
set_option linter.unusedVariables false
set_option maxHeartbeats 8000000
set_option maxRecDepth 100000
theorem hasL : hasC 0 0 4 0 0 3 := by unfold hasC canP inP crossZ; decide
theorem dL1 : distZ 0 0 4 0 = 16 := by decide
theorem dL2 : distZ 4 0 0 3 = 25 := by decide
theorem dL3 : distZ 0 3 0 0 = 9 := by decide
theorem cL : crossZ 0 0 4 0 0 3 = 12 := by decide
theorem radL : radZ 0 0 4 0 0 3 = 25 / 4 := by unfold radZ; rw [dL1, dL2, dL3, cL]; decide +kernel
theorem radLn : ((25 : Rat) / 4).num = 25 ∧ ((25 : Rat) / 4).den = 4 := by decide +kernel
theorem cmL1 : cmpZ 14400 17424 < 0 := by decide
theorem cmL2 : ¬ cmpZ 14400 14400 < 0 := by decide
theorem NBd (n : Nat) (h0 : 0 < n) (h : n < 10) : NB 10 n = [(n : Int)] := by
  rw [NB_pos (by omega) h0, Nat.mod_eq_of_lt h, Nat.div_eq_of_lt h, NB_zero]
theorem showL : showP 25 4 = (⟨#[50, 53, 47, 52]⟩ : ByteArray) := by
  unfold showP showZ showS decS
  rw [if_neg (by omega), if_neg (by omega), show (25 : Int).natAbs = 25 from rfl, if_neg (by omega), if_neg (by omega), NBd 4 (by omega) (by omega), NB_pos (by omega) (by omega), NBd (25 / 10) (by omega) (by omega)]
  rfl
theorem rl25 : rintC 10000 (.int .i64 (Int.sign 25)) (.row (NB 65536 25).length ((NB 65536 25).map (.int .i64))) = some 25 := rlit 25 (Nat.le_trans (NB_length_le (by omega) _ 1 (by decide)) (by omega))
theorem rnL : rn 25 4 = 25 := by unfold rn; simp
theorem rDL : rD 4 = 4 := by unfold rD; simp
theorem radLm : mkRat 25 4 = 25 / 4 := by decide +kernel
theorem rn_den (q : Rat) : rn q.num q.den = q.num := by unfold rn; rw [if_neg q.den_nz]
theorem rD_den (q : Rat) : rD q.den = (q.den : Int) := by unfold rD; rw [if_neg q.den_nz]
theorem den_ne (q : Rat) : ((q.den : Int) = 0) = False := eq_false (by have := q.den_nz; omega)
noncomputable def L9lives : List AV → Option AV
  | [] => some (.bool true)
  | _ => none
noncomputable def E_L9lives : Env := mkS [(20, CRadius2), (23, FOf), (55, FShow), (12, CSmall)] [] []
theorem run_L9lives  : AEnds E_L9lives (finW Tryz.prog Tryz.f14.results) 0 [.code (Tryz.f14.body.getD .skip)] (startA Tryz.f14 [] [] []) (.bool true) := by
  simp only [Tryz.f14, Option.getD_some, startA]
  haveI : SzN 25 1 := ⟨by decide⟩
  haveI : SzI 25 1 := ⟨by decide⟩
  simp (maxSteps := 4000000) (disch := (first | with_reducible rfl | assumption | with_reducible exact WB_NB _ _ | (with_reducible refine nb_le ?_; omega) | (with_reducible refine nb16_le ?_; omega) | omega | (simp only [List.length_append, List.length_map, List.length_cons, List.length_nil, List.length_set, List.length_replicate, List.length_take, List.size_toArray]; omega))) [E_L9lives, hasL, radL, dL1, dL2, dL3, cL, radLn.1, radLn.2, cmL1, cmL2, rl25, rnL, rDL, radLm, showL]
theorem sL9lives : GoodS (14, L9lives) := by
  intro xs r h
  simp only at h
  unfold L9lives at h
  split at h
  · skip
    cases h
    exact .inl <| okW_ends (mkS_ok (alls_cons sCRadius2 (alls_cons sFOf (alls_cons sFShow (alls_cons sCSmall alls_nil))))) mixed Tryz.func14 rfl (by kernel_rfl : Fits Tryz.prog E_L9lives.ref E_L9lives.dep Tryz.f14 = true) (run_L9lives )
  · cases h
attribute [simp] L9lives
end Go.Proofs.YtofklpmlgfbmlaaGreat.ZRat
namespace Go.Proofs.YtofklpmlgfbmlaaGreat.ZRat
open Go.RowKit Go.Proofs.YtofklpmlgfbmlaaGreat.Wd
open Go Go.Proofs.YtofklpmlgfbmlaaGreat.Ab Go.Proofs Go.Proofs.YtofklpmlgfbmlaaGreat.Num Go.Proofs.YtofklpmlgfbmlaaGreat.ZRatP
set_option linter.unusedSimpArgs false
set_option linter.unusedVariables false
set_option maxHeartbeats 8000000
set_option maxRecDepth 100000
noncomputable def E_CircumSmall : Env := mkS [(12, CSmall), (13, RHas), (15, RSmall9), (14, L9lives)] [] [(1, [([], [], false), ([], [], false), ([], [], false), ([], [], true), ([], [], false), ([], [], true), ([], [], false), ([], [], false), ([], [], false), ([0, 1, 2], [3, 5], false), ([0, 1, 2], [5], false), ([0, 1, 2], [], false)])]
theorem run_CircumSmall (x0 y0 x1 y1 x2 y2 : Int) (c0 : (-9223372036854775808 ≤ x0 ∧ x0 < 9223372036854775808) ∧ (-9223372036854775808 ≤ y0 ∧ y0 < 9223372036854775808) ∧ (-9223372036854775808 ≤ x1 ∧ x1 < 9223372036854775808) ∧ (-9223372036854775808 ≤ y1 ∧ y1 < 9223372036854775808) ∧ (-9223372036854775808 ≤ x2 ∧ x2 < 9223372036854775808) ∧ (-9223372036854775808 ≤ y2 ∧ y2 < 9223372036854775808)) (a1 : Int) (c1 : -9223372036854775808 ≤ a1 ∧ a1 < 9223372036854775808) : AEnds E_CircumSmall (finW Tryz.prog Tryz.f3.results) 0 [.code (Tryz.f3.body.getD .skip)] (startA Tryz.f3 [.agg [.int .i64 x0, .int .i64 y0, .int .i64 x1, .int .i64 y1, .int .i64 x2, .int .i64 y2], .int .i64 a1] [] []) (.bool true) := by
  obtain ⟨hx0, hy0, hx1, hy1, hx2, hy2⟩ := c0
  simp only [Tryz.f3, Option.getD_some, startA]
  by_cases h : hasC x0 y0 x1 y1 x2 y2
  · by_cases s1 : 1 ≤ a1
    · have s1' : ¬ a1 < 1 := by omega
      by_cases s2 : a1 ≤ 17179869184
      · have s2' : ¬ 17179869184 < a1 := by omega
        simp (maxSteps := 4000000) (disch := (first | with_reducible rfl | assumption | with_reducible exact WB_NB _ _ | (with_reducible refine nb_le ?_; omega) | (with_reducible refine nb16_le ?_; omega) | omega | (simp only [List.length_append, List.length_map, List.length_cons, List.length_nil, List.length_set, List.length_replicate, List.length_take, List.size_toArray]; omega))) [E_CircumSmall, h, s1, s2, s1', s2', hx0, hy0, hx1, hy1, hx2, hy2]
      · have s2' : 17179869184 < a1 := by omega
        simp (maxSteps := 4000000) (disch := (first | with_reducible rfl | assumption | with_reducible exact WB_NB _ _ | (with_reducible refine nb_le ?_; omega) | (with_reducible refine nb16_le ?_; omega) | omega | (simp only [List.length_append, List.length_map, List.length_cons, List.length_nil, List.length_set, List.length_replicate, List.length_take, List.size_toArray]; omega))) [E_CircumSmall, h, s1, s2, s1', s2', hx0, hy0, hx1, hy1, hx2, hy2]
    · have s1' : a1 < 1 := by omega
      simp (maxSteps := 4000000) (disch := (first | with_reducible rfl | assumption | with_reducible exact WB_NB _ _ | (with_reducible refine nb_le ?_; omega) | (with_reducible refine nb16_le ?_; omega) | omega | (simp only [List.length_append, List.length_map, List.length_cons, List.length_nil, List.length_set, List.length_replicate, List.length_take, List.size_toArray]; omega))) [E_CircumSmall, h, s1, s1', hx0, hy0, hx1, hy1, hx2, hy2]
  · by_cases s1 : a1 < 1
    · simp (maxSteps := 4000000) (disch := (first | with_reducible rfl | assumption | with_reducible exact WB_NB _ _ | (with_reducible refine nb_le ?_; omega) | (with_reducible refine nb16_le ?_; omega) | omega | (simp only [List.length_append, List.length_map, List.length_cons, List.length_nil, List.length_set, List.length_replicate, List.length_take, List.size_toArray]; omega))) [E_CircumSmall, h, s1, hx0, hy0, hx1, hy1, hx2, hy2]
    · by_cases s2 : 17179869184 < a1
      · simp (maxSteps := 4000000) (disch := (first | with_reducible rfl | assumption | with_reducible exact WB_NB _ _ | (with_reducible refine nb_le ?_; omega) | (with_reducible refine nb16_le ?_; omega) | omega | (simp only [List.length_append, List.length_map, List.length_cons, List.length_nil, List.length_set, List.length_replicate, List.length_take, List.size_toArray]; omega))) [E_CircumSmall, h, s1, s2, hx0, hy0, hx1, hy1, hx2, hy2]
      · simp (maxSteps := 4000000) (disch := (first | with_reducible rfl | assumption | with_reducible exact WB_NB _ _ | (with_reducible refine nb_le ?_; omega) | (with_reducible refine nb16_le ?_; omega) | omega | (simp only [List.length_append, List.length_map, List.length_cons, List.length_nil, List.length_set, List.length_replicate, List.length_take, List.size_toArray]; omega))) [E_CircumSmall, h, s1, s2, hx0, hy0, hx1, hy1, hx2, hy2]
theorem law_CircumSmall (x0 y0 x1 y1 x2 y2 : Int) (c0 : (-9223372036854775808 ≤ x0 ∧ x0 < 9223372036854775808) ∧ (-9223372036854775808 ≤ y0 ∧ y0 < 9223372036854775808) ∧ (-9223372036854775808 ≤ x1 ∧ x1 < 9223372036854775808) ∧ (-9223372036854775808 ≤ y1 ∧ y1 < 9223372036854775808) ∧ (-9223372036854775808 ≤ x2 ∧ x2 < 9223372036854775808) ∧ (-9223372036854775808 ≤ y2 ∧ y2 < 9223372036854775808)) (a1 : Int) (c1 : -9223372036854775808 ≤ a1 ∧ a1 < 9223372036854775808) : OkV Tryz.prog 3 [.agg [.int .i64 x0, .int .i64 y0, .int .i64 x1, .int .i64 y1, .int .i64 x2, .int .i64 y2], .int .i64 a1] (.bool true) :=
  okW_ends (mkS_ok (alls_cons sCSmall (alls_cons sRHas (alls_cons sRSmall9 (alls_cons sL9lives alls_nil))))) mixed Tryz.func3 rfl (by kernel_rfl : Fits Tryz.prog E_CircumSmall.ref E_CircumSmall.dep Tryz.f3 = true) (run_CircumSmall x0 y0 x1 y1 x2 y2 c0 a1 c1)
end Go.Proofs.YtofklpmlgfbmlaaGreat.ZRat
