/- Walks by the abstract run: the reference of quality, and its plain law. -/
import Derived.Test.YtofklpmlgfbmlaaGreatC12
import Derived.Test.YtofklpmlgfbmlaaGreatC13
import Derived.Test.YtofklpmlgfbmlaaGreatC19
import Derived.Test.YtofklpmlgfbmlaaGreatC22
import Derived.Test.YtofklpmlgfbmlaaGreatC8
import Derived.Test.YtofklpmlgfbmlaaGreatC9
set_option linter.unusedVariables false
set_option linter.unusedSimpArgs false
namespace Go.Proofs.YtofklpmlgfbmlaaGreat.ZRat
open Go.RowKit Go.Proofs.YtofklpmlgfbmlaaGreat.Wd
open Go Go.Proofs.YtofklpmlgfbmlaaGreat.Ab Go.Proofs Go.Proofs.YtofklpmlgfbmlaaGreat.Num Go.Proofs.YtofklpmlgfbmlaaGreat.ZRatP
set_option maxHeartbeats 8000000
set_option maxRecDepth 100000
theorem slim_eq {ax ay bx bY cx cy : Int} (h : crossZ ax ay bx bY cx cy ≠ 0) : mkRat ((sidesZ ax ay bx bY cx cy).2.1 * (sidesZ ax ay bx bY cx cy).2.2) (4 * (crossZ ax ay bx bY cx cy * crossZ ax ay bx bY cx cy)).natAbs = slimZ ax ay bx bY cx cy := by
  have hp := cpos h
  have s0 := (sides_pos h).1
  have hd : distZ ax ay bx bY * distZ bx bY cx cy * distZ cx cy ax ay = (sidesZ ax ay bx bY cx cy).1 * (sidesZ ax ay bx bY cx cy).2.1 * (sidesZ ax ay bx bY cx cy).2.2 := (srt3_prod _ _ _).symm
  have c0 := castne' (show (sidesZ ax ay bx bY cx cy).1 ≠ 0 by omega)
  have c1 := castne' (show (4 * (crossZ ax ay bx bY cx cy * crossZ ax ay bx bY cx cy)) ≠ 0 by omega)
  unfold slimZ radZ
  rw [hd, Rat.mkRat_eq_div, natAbsQ' hp]
  generalize (4 * (crossZ ax ay bx bY cx cy * crossZ ax ay bx bY cx cy)) = f at *
  generalize (sidesZ ax ay bx bY cx cy).1 = a at *
  generalize (sidesZ ax ay bx bY cx cy).2.1 = b at *
  generalize (sidesZ ax ay bx bY cx cy).2.2 = c at *
  simp only [Rat.intCast_mul]
  clear hd hp s0 h
  generalize (a : Rat) = a at *
  generalize (b : Rat) = b at *
  generalize (c : Rat) = c at *
  generalize (f : Rat) = f at *
  grind
theorem sin_eq {ax ay bx bY cx cy : Int} (h : crossZ ax ay bx bY cx cy ≠ 0) : mkRat (crossZ ax ay bx bY cx cy * crossZ ax ay bx bY cx cy) ((sidesZ ax ay bx bY cx cy).2.1 * (sidesZ ax ay bx bY cx cy).2.2).natAbs = sinZ ax ay bx bY cx cy := by
  obtain ⟨-, s1, s2⟩ := sides_pos h
  unfold sinZ
  rw [Rat.mkRat_eq_div, natAbsQ' (Int.mul_pos s1 s2)]
noncomputable def RSlim : List AV → Option AV
  | [x0, x1, x2] => (ptD x0).bind fun a0 => (ptD x1).bind fun a1 => (ptD x2).bind fun a2 => if turnC a0.1 a0.2 a1.1 a1.2 a2.1 a2.2 then some (rratA (slimZ a0.1 a0.2 a1.1 a1.2 a2.1 a2.2).num (slimZ a0.1 a0.2 a1.1 a1.2 a2.1 a2.2).den) else none
  | _ => none
attribute [simp] RSlim
noncomputable def RSin2 : List AV → Option AV
  | [x0, x1, x2] => (ptD x0).bind fun a0 => (ptD x1).bind fun a1 => (ptD x2).bind fun a2 => if turnC a0.1 a0.2 a1.1 a1.2 a2.1 a2.2 then some (rratA (sinZ a0.1 a0.2 a1.1 a1.2 a2.1 a2.2).num (sinZ a0.1 a0.2 a1.1 a1.2 a2.1 a2.2).den) else none
  | _ => none
noncomputable def E_RSin2 : Env := mkS [(30, RSides), (80, RArea), (35, ZMul), (81, FOver), (63, FLow)] [] [(1, [([], [], false), ([], [], false), ([], [], false), ([], [], false), ([], [], false), ([], [], false), ([], [], false), ([], [], false), ([], [], false), ([], [], false), ([0, 1], [], false), ([0, 1], [], false)])]
theorem run_RSin2 (x0 y0 : Int) (x1 y1 : Int) (x2 y2 : Int) (hc : turnC x0 y0 x1 y1 x2 y2) : AEnds E_RSin2 (finW Tryz.prog Tryz.f36.results) 0 [.code (Tryz.f36.body.getD .skip)] (startA Tryz.f36 [.agg [.int .i64 x0, .int .i64 y0], .agg [.int .i64 x1, .int .i64 y1], .agg [.int .i64 x2, .int .i64 y2]] [] []) (rratA (sinZ x0 y0 x1 y1 x2 y2).num (sinZ x0 y0 x1 y1 x2 y2).den) := by
  simp only [Tryz.f36, Option.getD_some, startA]
  obtain ⟨hc0, hc1⟩ := hc
  obtain ⟨k0, k1, k2⟩ := hc0
  have hcr : crossZ x0 y0 x1 y1 x2 y2 ≠ 0 := Int.ne_of_gt hc1
  obtain ⟨hx0, hy0⟩ := can_rng k0
  obtain ⟨hx1, hy1⟩ := can_rng k1
  obtain ⟨hx2, hy2⟩ := can_rng k2
  haveI : SzI x0 2 := SzI.rng hx0
  haveI : SzI y0 2 := SzI.rng hy0
  haveI : SzI x1 2 := SzI.rng hx1
  haveI : SzI y1 2 := SzI.rng hy1
  haveI : SzI x2 2 := SzI.rng hx2
  haveI : SzI y2 2 := SzI.rng hy2
  have sb := sides_b ⟨k0, k1, k2⟩
  have sp := sides_pos hcr
  have cb := cross_b ⟨k0, k1, k2⟩
  have sle := @slim_eq x0 y0 x1 y1 x2 y2 hcr
  have sne := @sin_eq x0 y0 x1 y1 x2 y2 hcr
  have cpz := cpos hcr
  generalize slimZ x0 y0 x1 y1 x2 y2 = T at *
  generalize sinZ x0 y0 x1 y1 x2 y2 = U at *
  generalize hc : crossZ x0 y0 x1 y1 x2 y2 = c at *
  generalize hs0 : (sidesZ x0 y0 x1 y1 x2 y2).1 = s0 at *
  generalize hs1 : (sidesZ x0 y0 x1 y1 x2 y2).2.1 = s1 at *
  generalize hs2 : (sidesZ x0 y0 x1 y1 x2 y2).2.2 = s2 at *
  haveI : SzI s0 3 := ⟨by omega⟩
  haveI : SzI s1 3 := ⟨by omega⟩
  haveI : SzI s2 3 := ⟨by omega⟩
  haveI : SzI c 3 := ⟨by omega⟩
  have m1 := Int.mul_pos sp.2.1 sp.2.2
  have n1 : ¬ 4 * (c * c) < 0 := by omega
  have n2 : ¬ 4 * (c * c) = 0 := by omega
  have n3 : ¬ s1 * s2 < 0 := by omega
  have n4 : ¬ s1 * s2 = 0 := by omega
  clear sb sp cb cpz m1
  simp (maxSteps := 4000000) (disch := (first | with_reducible rfl | assumption | with_reducible exact WB_NB _ _ | (with_reducible refine nb_le ?_; omega) | (with_reducible refine nb16_le ?_; omega) | omega | (simp only [List.length_append, List.length_map, List.length_cons, List.length_nil, List.length_set, List.length_replicate, List.length_take, List.size_toArray]; omega))) [E_RSin2, k0, k1, k2, hx0, hy0, hx1, hy1, hx2, hy2, hc, hs0, hs1, hs2, n3, n4, sne, -Int.sign_mul, -Int.sign_neg, -Int.natAbs_neg]
theorem sRSin2 : GoodS (36, RSin2) := by
  intro xs r h
  simp only at h
  unfold RSin2 at h
  split at h
  · obtain ⟨a0, h0, h⟩ := Option.bind_eq_some_iff.1 h
    obtain ⟨a1, h1, h⟩ := Option.bind_eq_some_iff.1 h
    obtain ⟨a2, h2, h⟩ := Option.bind_eq_some_iff.1 h
    split at h
    · rename_i hc
      cases h
      (obtain ⟨x0, y0⟩ := a0); (obtain rfl := ptD_out h0)
      (obtain ⟨x1, y1⟩ := a1); (obtain rfl := ptD_out h1)
      (obtain ⟨x2, y2⟩ := a2); (obtain rfl := ptD_out h2)
      exact .inl <| okW_ends (mkS_ok (alls_cons sRSides (alls_cons sRArea (alls_cons sZMul (alls_cons sFOver (alls_cons sFLow alls_nil)))))) mixed Tryz.func36 rfl (by kernel_rfl : Fits Tryz.prog E_RSin2.ref E_RSin2.dep Tryz.f36 = true) (run_RSin2 _ _ _ _ _ _ hc)
    · cases h
  · cases h
attribute [simp] RSin2
end Go.Proofs.YtofklpmlgfbmlaaGreat.ZRat
namespace Go.Proofs.YtofklpmlgfbmlaaGreat.ZRat
open Go.RowKit Go.Proofs.YtofklpmlgfbmlaaGreat.Wd
open Go Go.Proofs.YtofklpmlgfbmlaaGreat.Ab Go.Proofs Go.Proofs.YtofklpmlgfbmlaaGreat.Num Go.Proofs.YtofklpmlgfbmlaaGreat.ZRatP
set_option maxHeartbeats 8000000
set_option maxRecDepth 100000
theorem tL : turnC 0 0 4 0 0 3 := by unfold turnC canP inP crossZ; decide
theorem sL : sidesZ 0 0 4 0 0 3 = (9, 16, 25) := by decide
theorem cL : crossZ 0 0 4 0 0 3 = 12 := by decide
theorem aL : angZ (9, 16, 25) = 0 := by decide
theorem slL : slimZ 0 0 4 0 0 3 = 25 / 36 := by
  unfold slimZ radZ
  rw [sL, cL, show distZ 0 0 4 0 = 16 from by decide, show distZ 4 0 0 3 = 25 from by decide, show distZ 0 3 0 0 = 9 from by decide]
  decide +kernel
theorem slLn : ((25 : Rat) / 36).num = 25 ∧ ((25 : Rat) / 36).den = 36 := by decide +kernel
theorem NBd (n : Nat) (h0 : 0 < n) (h : n < 10) : NB 10 n = [(n : Int)] := by
  rw [NB_pos (by omega) h0, Nat.mod_eq_of_lt h, Nat.div_eq_of_lt h, NB_zero]
theorem showL : showP 25 36 = (⟨#[50, 53, 47, 51, 54]⟩ : ByteArray) := by
  unfold showP showZ showS decS
  rw [if_neg (by omega), if_neg (by omega), show (25 : Int).natAbs = 25 from rfl, if_neg (by omega), if_neg (by omega), NB_pos (b := 10) (n := 36) (by omega) (by omega), NBd (36 / 10) (by omega) (by omega), NB_pos (b := 10) (n := 25) (by omega) (by omega), NBd (25 / 10) (by omega) (by omega)]
  rfl
theorem rl25 : rintC 10000 (.int .i64 (Int.sign 25)) (.row (NB 65536 25).length ((NB 65536 25).map (.int .i64))) = some 25 := rlit 25 (Nat.le_trans (NB_length_le (by omega) _ 1 (by decide)) (by omega))
theorem rl36 : rintC 10000 (.int .i64 (Int.sign 36)) (.row (NB 65536 36).length ((NB 65536 36).map (.int .i64))) = some 36 := rlit 36 (Nat.le_trans (NB_length_le (by omega) _ 1 (by decide)) (by omega))
theorem rnL : rn 25 36 = 25 ∧ rD 36 = 36 ∧ mkRat 25 36 = 25 / 36 := by decide +kernel
theorem den_ne (q : Rat) : ((q.den : Int) = 0) = False := eq_false (by have := q.den_nz; omega)
theorem szSin {ax ay bx bY cx cy : Int} (h : canP ax ay ∧ canP bx bY ∧ canP cx cy) : SzQ (sinZ ax ay bx bY cx cy) 14 := by
  obtain ⟨-, s1, s2⟩ := sides_b h
  have cb := cross_b h
  haveI : SzI (sidesZ ax ay bx bY cx cy).2.1 3 := ⟨by omega⟩
  haveI : SzI (sidesZ ax ay bx bY cx cy).2.2 3 := ⟨by omega⟩
  haveI : SzI (crossZ ax ay bx bY cx cy) 3 := ⟨by omega⟩
  unfold sinZ
  exact (inferInstance : SzQ (((crossZ ax ay bx bY cx cy * crossZ ax ay bx bY cx cy : Int) : Rat) / (((sidesZ ax ay bx bY cx cy).2.1 * (sidesZ ax ay bx bY cx cy).2.2 : Int) : Rat)) _)
noncomputable def L35lives : List AV → Option AV
  | [] => some (.bool true)
  | _ => none
noncomputable def E_L35lives : Env := mkS [(27, QOf35), (37, QSlim), (23, FOf), (55, FShow)] [] []
theorem run_L35lives  : AEnds E_L35lives (finW Tryz.prog Tryz.f29.results) 0 [.code (Tryz.f29.body.getD .skip)] (startA Tryz.f29 [] [] []) (.bool true) := by
  simp only [Tryz.f29, Option.getD_some, startA]
  haveI : SzN 25 1 := ⟨by decide⟩
  haveI : SzI 25 1 := ⟨by decide⟩
  haveI : SzN 36 1 := ⟨by decide⟩
  haveI : SzI 36 1 := ⟨by decide⟩
  simp (maxSteps := 4000000) (disch := (first | with_reducible rfl | assumption | with_reducible exact WB_NB _ _ | (with_reducible refine nb_le ?_; omega) | (with_reducible refine nb16_le ?_; omega) | omega | (simp only [List.length_append, List.length_map, List.length_cons, List.length_nil, List.length_set, List.length_replicate, List.length_take, List.size_toArray]; omega))) [E_L35lives, nilOp, tL, sL, cL, aL, slL, slLn.1, slLn.2, rl25, rl36, rnL, showL]
theorem sL35lives : GoodS (29, L35lives) := by
  intro xs r h
  simp only at h
  unfold L35lives at h
  split at h
  · skip
    cases h
    exact .inl <| okW_ends (mkS_ok (alls_cons sQOf35 (alls_cons sQSlim (alls_cons sFOf (alls_cons sFShow alls_nil))))) mixed Tryz.func29 rfl (by kernel_rfl : Fits Tryz.prog E_L35lives.ref E_L35lives.dep Tryz.f29 = true) (run_L35lives )
  · cases h
attribute [simp] L35lives
end Go.Proofs.YtofklpmlgfbmlaaGreat.ZRat
