/- A center is moved with its corners, and the circle stays as great. -/
import Derived.Test.YtofklpmlgfbmlaaGreatC10
import Derived.Test.YtofklpmlgfbmlaaGreatC11
import Derived.Test.YtofklpmlgfbmlaaGreatC12
import Derived.Test.YtofklpmlgfbmlaaGreatC13
import Derived.Test.YtofklpmlgfbmlaaGreatC8
import Derived.Test.YtofklpmlgfbmlaaGreatC9
set_option linter.unusedVariables false
set_option linter.unusedSimpArgs false
namespace Go.Proofs.YtofklpmlgfbmlaaGreat.ZRat
open Go.RowKit Go.Proofs.YtofklpmlgfbmlaaGreat.Wd
open Go Go.Proofs.YtofklpmlgfbmlaaGreat.Ab Go.Proofs Go.Proofs.YtofklpmlgfbmlaaGreat.Num Go.Proofs.YtofklpmlgfbmlaaGreat.ZRatP
set_option linter.unusedSimpArgs false
set_option linter.unusedVariables false
set_option maxHeartbeats 8000000
set_option maxRecDepth 100000
theorem hasL : hasC 0 0 4 0 0 3 := by unfold hasC canP inP crossZ; decide
theorem dL1 : distZ 0 0 4 0 = 16 := by decide
theorem dL2 : distZ 4 0 0 3 = 25 := by decide
theorem dL3 : distZ 0 3 0 0 = 9 := by decide
theorem cL : crossZ 0 0 4 0 0 3 = 12 := by decide
theorem radL : radZ 0 0 4 0 0 3 = 25 / 4 := by unfold radZ; rw [dL1, dL2, dL3, cL]; decide +kernel
theorem radLn : ((25 : Rat) / 4).num = 25 ∧ ((25 : Rat) / 4).den = 4 := by decide +kernel
theorem cmL1 : cmpZ 14400 17424 < 0 := by decide
theorem cmL2 : ¬ cmpZ 14400 14400 < 0 := by decide
theorem NBd (n : Nat) (h0 : 0 < n) (h : n < 10) : NB 10 n = [(n : Int)] := by
  rw [NB_pos (by omega) h0, Nat.mod_eq_of_lt h, Nat.div_eq_of_lt h, NB_zero]
theorem showL : showP 25 4 = (⟨#[50, 53, 47, 52]⟩ : ByteArray) := by
  unfold showP showZ showS decS
  rw [if_neg (by omega), if_neg (by omega), show (25 : Int).natAbs = 25 from rfl, if_neg (by omega), if_neg (by omega), NBd 4 (by omega) (by omega), NB_pos (by omega) (by omega), NBd (25 / 10) (by omega) (by omega)]
  rfl
theorem rl25 : rintC 10000 (.int .i64 (Int.sign 25)) (.row (NB 65536 25).length ((NB 65536 25).map (.int .i64))) = some 25 := rlit 25 (Nat.le_trans (NB_length_le (by omega) _ 1 (by decide)) (by omega))
theorem rnL : rn 25 4 = 25 := by unfold rn; simp
theorem rDL : rD 4 = 4 := by unfold rD; simp
theorem radLm : mkRat 25 4 = 25 / 4 := by decide +kernel
theorem rn_den (q : Rat) : rn q.num q.den = q.num := by unfold rn; rw [if_neg q.den_nz]
theorem rD_den (q : Rat) : rD q.den = (q.den : Int) := by unfold rD; rw [if_neg q.den_nz]
theorem den_ne (q : Rat) : ((q.den : Int) = 0) = False := eq_false (by have := q.den_nz; omega)
noncomputable def L9lives : List AV → Option AV
  | [] => some (.bool true)
  | _ => none
noncomputable def E_L9lives : Env := mkS [(20, CRadius2), (23, FOf), (55, FShow), (12, CSmall)] [] []
theorem run_L9lives  : AEnds E_L9lives (finW Tryz.prog Tryz.f14.results) 0 [.code (Tryz.f14.body.getD .skip)] (startA Tryz.f14 [] [] []) (.bool true) := by
  simp only [Tryz.f14, Option.getD_some, startA]
  haveI : SzN 25 1 := ⟨by decide⟩
  haveI : SzI 25 1 := ⟨by decide⟩
  simp (maxSteps := 4000000) (disch := (first | with_reducible rfl | assumption | with_reducible exact WB_NB _ _ | (with_reducible refine nb_le ?_; omega) | (with_reducible refine nb16_le ?_; omega) | omega | (simp only [List.length_append, List.length_map, List.length_cons, List.length_nil, List.length_set, List.length_replicate, List.length_take, List.size_toArray]; omega))) [E_L9lives, hasL, radL, dL1, dL2, dL3, cL, radLn.1, radLn.2, cmL1, cmL2, rl25, rnL, rDL, radLm, showL]
theorem sL9lives : GoodS (14, L9lives) := by
  intro xs r h
  simp only at h
  unfold L9lives at h
  split at h
  · skip
    cases h
    exact .inl <| okW_ends (mkS_ok (alls_cons sCRadius2 (alls_cons sFOf (alls_cons sFShow (alls_cons sCSmall alls_nil))))) mixed Tryz.func14 rfl (by kernel_rfl : Fits Tryz.prog E_L9lives.ref E_L9lives.dep Tryz.f14 = true) (run_L9lives )
  · cases h
attribute [simp] L9lives
end Go.Proofs.YtofklpmlgfbmlaaGreat.ZRat
namespace Go.Proofs.YtofklpmlgfbmlaaGreat.ZRat
open Go.RowKit Go.Proofs.YtofklpmlgfbmlaaGreat.Wd
open Go Go.Proofs.YtofklpmlgfbmlaaGreat.Ab Go.Proofs Go.Proofs.YtofklpmlgfbmlaaGreat.Num Go.Proofs.YtofklpmlgfbmlaaGreat.ZRatP
set_option linter.unusedSimpArgs false
set_option linter.unusedVariables false
set_option maxHeartbeats 8000000
set_option maxRecDepth 100000
theorem mv_mk (q : Rat) (u : Int) : mkRat (q.num + u * (q.den : Int)) q.den = q + (u : Rat) := by
  have h : ((q.den : Nat) : Rat) ≠ 0 := by rw [← Rat.intCast_natCast]; exact castne' (by have := q.den_pos; omega)
  have e : q = (q.num : Rat) / ((q.den : Nat) : Rat) := by rw [← Rat.mkRat_eq_div, Rat.mkRat_self]
  rw [Rat.mkRat_eq_div, Rat.intCast_add, Rat.intCast_mul, Rat.intCast_natCast]
  conv => rhs; rw [e]
  generalize (q.den : Rat) = d at *
  generalize (q.num : Rat) = n at *
  clear e
  grind
theorem can_mv {x y u v : Int} (h : canP x y) (k : canP u v) : Aside0 (wrap64 (x + u) = x + u ∧ wrap64 (y + v) = y + v) ∧ (-9223372036854775808 ≤ x + u ∧ x + u < 9223372036854775808) ∧ (-9223372036854775808 ≤ y + v ∧ y + v < 9223372036854775808) := by
  unfold canP inP at h k
  exact ⟨⟨w64in _ (by omega) (by omega), w64in _ (by omega) (by omega)⟩, by omega, by omega⟩
noncomputable def E_CircumMoves : Env := mkS [(45, LCan), (25, RCan), (13, RHas), (16, CCenter), (20, CRadius2), (23, FOf), (22, FLong), (26, FAdd), (21, FSame), (14, L9lives)] [(5, [2, 3, 5, 6])] []
theorem run_CircumMoves (x0 y0 x1 y1 x2 y2 : Int) (c0 : (-9223372036854775808 ≤ x0 ∧ x0 < 9223372036854775808) ∧ (-9223372036854775808 ≤ y0 ∧ y0 < 9223372036854775808) ∧ (-9223372036854775808 ≤ x1 ∧ x1 < 9223372036854775808) ∧ (-9223372036854775808 ≤ y1 ∧ y1 < 9223372036854775808) ∧ (-9223372036854775808 ≤ x2 ∧ x2 < 9223372036854775808) ∧ (-9223372036854775808 ≤ y2 ∧ y2 < 9223372036854775808)) (u v : Int) (c1 : (-9223372036854775808 ≤ u ∧ u < 9223372036854775808) ∧ (-9223372036854775808 ≤ v ∧ v < 9223372036854775808)) : AEnds E_CircumMoves (finW Tryz.prog Tryz.f6.results) 0 [.code (Tryz.f6.body.getD .skip)] (startA Tryz.f6 [.agg [.int .i64 x0, .int .i64 y0, .int .i64 x1, .int .i64 y1, .int .i64 x2, .int .i64 y2], .agg [.int .i64 u, .int .i64 v]] [] []) (.bool true) := by
  obtain ⟨hx0, hy0, hx1, hy1, hx2, hy2⟩ := c0
  obtain ⟨hu, hv⟩ := c1
  haveI : SzI x0 2 := SzI.rng hx0
  haveI : SzI y0 2 := SzI.rng hy0
  haveI : SzI x1 2 := SzI.rng hx1
  haveI : SzI y1 2 := SzI.rng hy1
  haveI : SzI x2 2 := SzI.rng hx2
  haveI : SzI y2 2 := SzI.rng hy2
  haveI : SzI u 2 := SzI.rng hu
  haveI : SzI v 2 := SzI.rng hv
  have q1 := szCX (ax := x0) (ay := y0) (bx := x1) (bY := y1) (cx := x2) (cy := y2)
  have q2 := szCY (ax := x0) (ay := y0) (bx := x1) (bY := y1) (cx := x2) (cy := y2)
  have q3 := szRad (ax := x0) (ay := y0) (bx := x1) (bY := y1) (cx := x2) (cy := y2)
  have hdx : ¬ (centX x0 y0 x1 y1 x2 y2).den = 0 := Rat.den_nz _
  have hdy : ¬ (centY x0 y0 x1 y1 x2 y2).den = 0 := Rat.den_nz _
  have m1 := centX_mv x0 y0 x1 y1 x2 y2 u v
  have m2 := centY_mv x0 y0 x1 y1 x2 y2 u v
  have m3 := rad_mv x0 y0 x1 y1 x2 y2 u v
  generalize hcx : centX x0 y0 x1 y1 x2 y2 = cx at *
  generalize hcy : centY x0 y0 x1 y1 x2 y2 = cy at *
  generalize hcr : radZ x0 y0 x1 y1 x2 y2 = R at *
  simp only [Tryz.f6, Option.getD_some, startA]
  by_cases k : canP u v
  · by_cases h : hasC x0 y0 x1 y1 x2 y2
    · obtain ⟨G0, s0⟩ := can_mv h.1.1 k
      obtain ⟨G1, s1⟩ := can_mv h.1.2.1 k
      obtain ⟨G2, s2⟩ := can_mv h.1.2.2 k
      by_cases p0 : canP (x0 + u) (y0 + v)
      · by_cases p1 : canP (x1 + u) (y1 + v)
        · by_cases p2 : canP (x2 + u) (y2 + v)
          · have h' : hasC (x0 + u) (y0 + v) (x1 + u) (y1 + v) (x2 + u) (y2 + v) := ⟨⟨p0, p1, p2⟩, by rw [cross_mv]; exact h.2⟩
            simp (maxSteps := 4000000) (disch := (first | with_reducible rfl | assumption | with_reducible exact WB_NB _ _ | (with_reducible refine nb_le ?_; omega) | (with_reducible refine nb16_le ?_; omega) | omega | (simp only [List.length_append, List.length_map, List.length_cons, List.length_nil, List.length_set, List.length_replicate, List.length_take, List.size_toArray]; omega))) [E_CircumMoves, G0.out, G1.out, G2.out, k, h, hu, hv, hx0, hy0, hx1, hy1, hx2, hy2, p0, p1, p2, h', hcx, hcy, hcr, m1, m2, m3, hdx, hdy, rden, rn_den, rD_den, den_ne, mv_mk, Rat.mkRat_self, s0.1, s0.2, s1.1, s1.2, s2.1, s2.2, -Int.sign_mul, -Int.sign_neg, -Int.natAbs_neg]
            refine .loop ?_
            simp only [E_CircumMoves, firstR, mkS_keep, keepT, List.find?, Nat.reduceBEq, Option.map_some, Option.getD_some]
            simp (maxSteps := 4000000) (disch := (first | with_reducible rfl | assumption | with_reducible exact WB_NB _ _ | (with_reducible refine nb_le ?_; omega) | (with_reducible refine nb16_le ?_; omega) | omega | (simp only [List.length_append, List.length_map, List.length_cons, List.length_nil, List.length_set, List.length_replicate, List.length_take, List.size_toArray]; omega))) [E_CircumMoves, G0.out, G1.out, G2.out, k, h, hu, hv, hx0, hy0, hx1, hy1, hx2, hy2, p0, p1, p2, h', hcx, hcy, hcr, m1, m2, m3, hdx, hdy, rden, rn_den, rD_den, den_ne, mv_mk, Rat.mkRat_self, s0.1, s0.2, s1.1, s1.2, s2.1, s2.2, -Int.sign_mul, -Int.sign_neg, -Int.natAbs_neg]
            refine .again ?_
            simp only [E_CircumMoves, firstR, mkS_keep, keepT, List.find?, Nat.reduceBEq, Option.map_some, Option.getD_some]
            simp (maxSteps := 4000000) (disch := (first | with_reducible rfl | assumption | with_reducible exact WB_NB _ _ | (with_reducible refine nb_le ?_; omega) | (with_reducible refine nb16_le ?_; omega) | omega | (simp only [List.length_append, List.length_map, List.length_cons, List.length_nil, List.length_set, List.length_replicate, List.length_take, List.size_toArray]; omega))) [E_CircumMoves, G0.out, G1.out, G2.out, k, h, hu, hv, hx0, hy0, hx1, hy1, hx2, hy2, p0, p1, p2, h', hcx, hcy, hcr, m1, m2, m3, hdx, hdy, rden, rn_den, rD_den, den_ne, mv_mk, Rat.mkRat_self, s0.1, s0.2, s1.1, s1.2, s2.1, s2.2, -Int.sign_mul, -Int.sign_neg, -Int.natAbs_neg]
            refine .again ?_
            simp only [E_CircumMoves, firstR, mkS_keep, keepT, List.find?, Nat.reduceBEq, Option.map_some, Option.getD_some]
            simp (maxSteps := 4000000) (disch := (first | with_reducible rfl | assumption | with_reducible exact WB_NB _ _ | (with_reducible refine nb_le ?_; omega) | (with_reducible refine nb16_le ?_; omega) | omega | (simp only [List.length_append, List.length_map, List.length_cons, List.length_nil, List.length_set, List.length_replicate, List.length_take, List.size_toArray]; omega))) [E_CircumMoves, G0.out, G1.out, G2.out, k, h, hu, hv, hx0, hy0, hx1, hy1, hx2, hy2, p0, p1, p2, h', hcx, hcy, hcr, m1, m2, m3, hdx, hdy, rden, rn_den, rD_den, den_ne, mv_mk, Rat.mkRat_self, s0.1, s0.2, s1.1, s1.2, s2.1, s2.2, -Int.sign_mul, -Int.sign_neg, -Int.natAbs_neg]
            refine .again ?_
            simp only [E_CircumMoves, firstR, mkS_keep, keepT, List.find?, Nat.reduceBEq, Option.map_some, Option.getD_some]
            simp (maxSteps := 4000000) (disch := (first | with_reducible rfl | assumption | with_reducible exact WB_NB _ _ | (with_reducible refine nb_le ?_; omega) | (with_reducible refine nb16_le ?_; omega) | omega | (simp only [List.length_append, List.length_map, List.length_cons, List.length_nil, List.length_set, List.length_replicate, List.length_take, List.size_toArray]; omega))) [E_CircumMoves, G0.out, G1.out, G2.out, k, h, hu, hv, hx0, hy0, hx1, hy1, hx2, hy2, p0, p1, p2, h', hcx, hcy, hcr, m1, m2, m3, hdx, hdy, rden, rn_den, rD_den, den_ne, mv_mk, Rat.mkRat_self, s0.1, s0.2, s1.1, s1.2, s2.1, s2.2, -Int.sign_mul, -Int.sign_neg, -Int.natAbs_neg]
          · simp (maxSteps := 4000000) (disch := (first | with_reducible rfl | assumption | with_reducible exact WB_NB _ _ | (with_reducible refine nb_le ?_; omega) | (with_reducible refine nb16_le ?_; omega) | omega | (simp only [List.length_append, List.length_map, List.length_cons, List.length_nil, List.length_set, List.length_replicate, List.length_take, List.size_toArray]; omega))) [E_CircumMoves, G0.out, G1.out, G2.out, k, h, hu, hv, hx0, hy0, hx1, hy1, hx2, hy2, p0, p1, p2, s0.1, s0.2, s1.1, s1.2, s2.1, s2.2]
            refine .loop ?_
            simp only [E_CircumMoves, firstR, mkS_keep, keepT, List.find?, Nat.reduceBEq, Option.map_some, Option.getD_some]
            simp (maxSteps := 4000000) (disch := (first | with_reducible rfl | assumption | with_reducible exact WB_NB _ _ | (with_reducible refine nb_le ?_; omega) | (with_reducible refine nb16_le ?_; omega) | omega | (simp only [List.length_append, List.length_map, List.length_cons, List.length_nil, List.length_set, List.length_replicate, List.length_take, List.size_toArray]; omega))) [E_CircumMoves, G0.out, G1.out, G2.out, k, h, hu, hv, hx0, hy0, hx1, hy1, hx2, hy2, p0, p1, p2, s0.1, s0.2, s1.1, s1.2, s2.1, s2.2]
            refine .again ?_
            simp only [E_CircumMoves, firstR, mkS_keep, keepT, List.find?, Nat.reduceBEq, Option.map_some, Option.getD_some]
            simp (maxSteps := 4000000) (disch := (first | with_reducible rfl | assumption | with_reducible exact WB_NB _ _ | (with_reducible refine nb_le ?_; omega) | (with_reducible refine nb16_le ?_; omega) | omega | (simp only [List.length_append, List.length_map, List.length_cons, List.length_nil, List.length_set, List.length_replicate, List.length_take, List.size_toArray]; omega))) [E_CircumMoves, G0.out, G1.out, G2.out, k, h, hu, hv, hx0, hy0, hx1, hy1, hx2, hy2, p0, p1, p2, s0.1, s0.2, s1.1, s1.2, s2.1, s2.2]
            refine .again ?_
            simp only [E_CircumMoves, firstR, mkS_keep, keepT, List.find?, Nat.reduceBEq, Option.map_some, Option.getD_some]
            simp (maxSteps := 4000000) (disch := (first | with_reducible rfl | assumption | with_reducible exact WB_NB _ _ | (with_reducible refine nb_le ?_; omega) | (with_reducible refine nb16_le ?_; omega) | omega | (simp only [List.length_append, List.length_map, List.length_cons, List.length_nil, List.length_set, List.length_replicate, List.length_take, List.size_toArray]; omega))) [E_CircumMoves, G0.out, G1.out, G2.out, k, h, hu, hv, hx0, hy0, hx1, hy1, hx2, hy2, p0, p1, p2, s0.1, s0.2, s1.1, s1.2, s2.1, s2.2]
        · simp (maxSteps := 4000000) (disch := (first | with_reducible rfl | assumption | with_reducible exact WB_NB _ _ | (with_reducible refine nb_le ?_; omega) | (with_reducible refine nb16_le ?_; omega) | omega | (simp only [List.length_append, List.length_map, List.length_cons, List.length_nil, List.length_set, List.length_replicate, List.length_take, List.size_toArray]; omega))) [E_CircumMoves, G0.out, G1.out, G2.out, k, h, hu, hv, hx0, hy0, hx1, hy1, hx2, hy2, p0, p1, s0.1, s0.2, s1.1, s1.2]
          refine .loop ?_
          simp only [E_CircumMoves, firstR, mkS_keep, keepT, List.find?, Nat.reduceBEq, Option.map_some, Option.getD_some]
          simp (maxSteps := 4000000) (disch := (first | with_reducible rfl | assumption | with_reducible exact WB_NB _ _ | (with_reducible refine nb_le ?_; omega) | (with_reducible refine nb16_le ?_; omega) | omega | (simp only [List.length_append, List.length_map, List.length_cons, List.length_nil, List.length_set, List.length_replicate, List.length_take, List.size_toArray]; omega))) [E_CircumMoves, G0.out, G1.out, G2.out, k, h, hu, hv, hx0, hy0, hx1, hy1, hx2, hy2, p0, p1, s0.1, s0.2, s1.1, s1.2]
          refine .again ?_
          simp only [E_CircumMoves, firstR, mkS_keep, keepT, List.find?, Nat.reduceBEq, Option.map_some, Option.getD_some]
          simp (maxSteps := 4000000) (disch := (first | with_reducible rfl | assumption | with_reducible exact WB_NB _ _ | (with_reducible refine nb_le ?_; omega) | (with_reducible refine nb16_le ?_; omega) | omega | (simp only [List.length_append, List.length_map, List.length_cons, List.length_nil, List.length_set, List.length_replicate, List.length_take, List.size_toArray]; omega))) [E_CircumMoves, G0.out, G1.out, G2.out, k, h, hu, hv, hx0, hy0, hx1, hy1, hx2, hy2, p0, p1, s0.1, s0.2, s1.1, s1.2]
      · simp (maxSteps := 4000000) (disch := (first | with_reducible rfl | assumption | with_reducible exact WB_NB _ _ | (with_reducible refine nb_le ?_; omega) | (with_reducible refine nb16_le ?_; omega) | omega | (simp only [List.length_append, List.length_map, List.length_cons, List.length_nil, List.length_set, List.length_replicate, List.length_take, List.size_toArray]; omega))) [E_CircumMoves, G0.out, G1.out, G2.out, k, h, hu, hv, hx0, hy0, hx1, hy1, hx2, hy2, p0, s0.1, s0.2]
        refine .loop ?_
        simp only [E_CircumMoves, firstR, mkS_keep, keepT, List.find?, Nat.reduceBEq, Option.map_some, Option.getD_some]
        simp (maxSteps := 4000000) (disch := (first | with_reducible rfl | assumption | with_reducible exact WB_NB _ _ | (with_reducible refine nb_le ?_; omega) | (with_reducible refine nb16_le ?_; omega) | omega | (simp only [List.length_append, List.length_map, List.length_cons, List.length_nil, List.length_set, List.length_replicate, List.length_take, List.size_toArray]; omega))) [E_CircumMoves, G0.out, G1.out, G2.out, k, h, hu, hv, hx0, hy0, hx1, hy1, hx2, hy2, p0, s0.1, s0.2]
    · simp (maxSteps := 4000000) (disch := (first | with_reducible rfl | assumption | with_reducible exact WB_NB _ _ | (with_reducible refine nb_le ?_; omega) | (with_reducible refine nb16_le ?_; omega) | omega | (simp only [List.length_append, List.length_map, List.length_cons, List.length_nil, List.length_set, List.length_replicate, List.length_take, List.size_toArray]; omega))) [E_CircumMoves, k, h, hu, hv, hx0, hy0, hx1, hy1, hx2, hy2]
  · simp (maxSteps := 4000000) (disch := (first | with_reducible rfl | assumption | with_reducible exact WB_NB _ _ | (with_reducible refine nb_le ?_; omega) | (with_reducible refine nb16_le ?_; omega) | omega | (simp only [List.length_append, List.length_map, List.length_cons, List.length_nil, List.length_set, List.length_replicate, List.length_take, List.size_toArray]; omega))) [E_CircumMoves, k, hu, hv, hx0, hy0, hx1, hy1, hx2, hy2]
theorem law_CircumMoves (x0 y0 x1 y1 x2 y2 : Int) (c0 : (-9223372036854775808 ≤ x0 ∧ x0 < 9223372036854775808) ∧ (-9223372036854775808 ≤ y0 ∧ y0 < 9223372036854775808) ∧ (-9223372036854775808 ≤ x1 ∧ x1 < 9223372036854775808) ∧ (-9223372036854775808 ≤ y1 ∧ y1 < 9223372036854775808) ∧ (-9223372036854775808 ≤ x2 ∧ x2 < 9223372036854775808) ∧ (-9223372036854775808 ≤ y2 ∧ y2 < 9223372036854775808)) (u v : Int) (c1 : (-9223372036854775808 ≤ u ∧ u < 9223372036854775808) ∧ (-9223372036854775808 ≤ v ∧ v < 9223372036854775808)) : OkV Tryz.prog 6 [.agg [.int .i64 x0, .int .i64 y0, .int .i64 x1, .int .i64 y1, .int .i64 x2, .int .i64 y2], .agg [.int .i64 u, .int .i64 v]] (.bool true) :=
  okW_ends (mkS_ok (alls_cons sLCan (alls_cons sRCan (alls_cons sRHas (alls_cons sCCenter (alls_cons sCRadius2 (alls_cons sFOf (alls_cons sFLong (alls_cons sFAdd (alls_cons sFSame (alls_cons sL9lives alls_nil))))))))))) mixed Tryz.func6 rfl (by kernel_rfl : Fits Tryz.prog E_CircumMoves.ref E_CircumMoves.dep Tryz.f6 = true) (run_CircumMoves x0 y0 x1 y1 x2 y2 c0 u v c1)
end Go.Proofs.YtofklpmlgfbmlaaGreat.ZRat
