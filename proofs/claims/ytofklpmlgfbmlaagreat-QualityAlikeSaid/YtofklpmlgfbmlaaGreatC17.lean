/- Walks by the abstract run: the reference of quality, and its plain law. -/
import Derived.Test.YtofklpmlgfbmlaaGreatC12
import Derived.Test.YtofklpmlgfbmlaaGreatC13
import Derived.Test.YtofklpmlgfbmlaaGreatC16
import Derived.Test.YtofklpmlgfbmlaaGreatC22
import Derived.Test.YtofklpmlgfbmlaaGreatC8
import Derived.Test.YtofklpmlgfbmlaaGreatC9
set_option linter.unusedVariables false
set_option linter.unusedSimpArgs false
namespace Go.Proofs.YtofklpmlgfbmlaaGreat.ZRat
open Go.RowKit Go.Proofs.YtofklpmlgfbmlaaGreat.Wd
open Go Go.Proofs.YtofklpmlgfbmlaaGreat.Ab Go.Proofs Go.Proofs.YtofklpmlgfbmlaaGreat.Num Go.Proofs.YtofklpmlgfbmlaaGreat.ZRatP
set_option linter.unusedSimpArgs false
set_option linter.unusedVariables false
set_option maxHeartbeats 8000000
set_option maxRecDepth 100000
theorem slim_eq {ax ay bx bY cx cy : Int} (h : crossZ ax ay bx bY cx cy ≠ 0) : mkRat ((sidesZ ax ay bx bY cx cy).2.1 * (sidesZ ax ay bx bY cx cy).2.2) (4 * (crossZ ax ay bx bY cx cy * crossZ ax ay bx bY cx cy)).natAbs = slimZ ax ay bx bY cx cy := by
  have hp := cpos h
  have s0 := (sides_pos h).1
  have hd : distZ ax ay bx bY * distZ bx bY cx cy * distZ cx cy ax ay = (sidesZ ax ay bx bY cx cy).1 * (sidesZ ax ay bx bY cx cy).2.1 * (sidesZ ax ay bx bY cx cy).2.2 := (srt3_prod _ _ _).symm
  have c0 := castne' (show (sidesZ ax ay bx bY cx cy).1 ≠ 0 by omega)
  have c1 := castne' (show (4 * (crossZ ax ay bx bY cx cy * crossZ ax ay bx bY cx cy)) ≠ 0 by omega)
  unfold slimZ radZ
  rw [hd, Rat.mkRat_eq_div, natAbsQ' hp]
  generalize (4 * (crossZ ax ay bx bY cx cy * crossZ ax ay bx bY cx cy)) = f at *
  generalize (sidesZ ax ay bx bY cx cy).1 = a at *
  generalize (sidesZ ax ay bx bY cx cy).2.1 = b at *
  generalize (sidesZ ax ay bx bY cx cy).2.2 = c at *
  simp only [Rat.intCast_mul]
  clear hd hp s0 h
  generalize (a : Rat) = a at *
  generalize (b : Rat) = b at *
  generalize (c : Rat) = c at *
  generalize (f : Rat) = f at *
  grind
theorem slim_sin {ax ay bx bY cx cy : Int} (h : crossZ ax ay bx bY cx cy ≠ 0) : slimZ ax ay bx bY cx cy * sinZ ax ay bx bY cx cy = mkRat 1 4 := by
  obtain ⟨-, s1, s2⟩ := sides_pos h
  have hp := cpos h
  rw [← slim_eq h]
  unfold sinZ
  rw [Rat.mkRat_eq_div, natAbsQ' hp]
  have c1 := castne' (show (crossZ ax ay bx bY cx cy) ≠ 0 from h)
  have c2 := castne' (show (sidesZ ax ay bx bY cx cy).2.1 ≠ 0 by omega)
  have c3 := castne' (show (sidesZ ax ay bx bY cx cy).2.2 ≠ 0 by omega)
  rw [show mkRat 1 4 = 1 / 4 from by decide +kernel]
  simp only [Rat.intCast_mul]
  generalize crossZ ax ay bx bY cx cy = c at *
  generalize (sidesZ ax ay bx bY cx cy).2.1 = a at *
  generalize (sidesZ ax ay bx bY cx cy).2.2 = b at *
  have e4 : ((4 : Int) : Rat) = 4 := rfl
  rw [e4]
  clear hp h s1 s2
  generalize (a : Rat) = a at *
  generalize (b : Rat) = b at *
  generalize (c : Rat) = c at *
  grind
/-- None is less slim than one third. -/
theorem third_le {ax ay bx bY cx cy : Int} (h : crossZ ax ay bx bY cx cy ≠ 0) : 4 * (crossZ ax ay bx bY cx cy * crossZ ax ay bx bY cx cy) ≤ 3 * ((sidesZ ax ay bx bY cx cy).2.1 * (sidesZ ax ay bx bY cx cy).2.2) := by
  have e : 4 * (crossZ ax ay bx bY cx cy * crossZ ax ay bx bY cx cy) = her (sidesZ ax ay bx bY cx cy).1 (sidesZ ax ay bx bY cx cy).2.1 (sidesZ ax ay bx bY cx cy).2.2 := by
    unfold sidesZ
    rw [srt3_her, dist_uv ax ay bx bY cx cy, dist_sym ax ay cx cy]
    exact heron (bx - ax) (bY - ay) (cx - ax) (cy - ay)
  rw [e]
  obtain ⟨h1, h2⟩ := srt3_le (distZ ax ay bx bY) (distZ bx bY cx cy) (distZ cx cy ax ay)
  exact quarter3 (Int.le_of_lt (sides_pos h).1) h1 h2
noncomputable def RSlim : List AV → Option AV
  | [x0, x1, x2] => (ptD x0).bind fun a0 => (ptD x1).bind fun a1 => (ptD x2).bind fun a2 => if turnC a0.1 a0.2 a1.1 a1.2 a2.1 a2.2 then some (rratA (slimZ a0.1 a0.2 a1.1 a1.2 a2.1 a2.2).num (slimZ a0.1 a0.2 a1.1 a1.2 a2.1 a2.2).den) else none
  | _ => none
attribute [simp] RSlim
noncomputable def RSin2 : List AV → Option AV
  | [x0, x1, x2] => (ptD x0).bind fun a0 => (ptD x1).bind fun a1 => (ptD x2).bind fun a2 => if turnC a0.1 a0.2 a1.1 a1.2 a2.1 a2.2 then some (rratA (sinZ a0.1 a0.2 a1.1 a1.2 a2.1 a2.2).num (sinZ a0.1 a0.2 a1.1 a1.2 a2.1 a2.2).den) else none
  | _ => none
attribute [simp] RSin2
end Go.Proofs.YtofklpmlgfbmlaaGreat.ZRat
namespace Go.Proofs.YtofklpmlgfbmlaaGreat.ZRat
open Go.RowKit Go.Proofs.YtofklpmlgfbmlaaGreat.Wd
open Go Go.Proofs.YtofklpmlgfbmlaaGreat.Ab Go.Proofs Go.Proofs.YtofklpmlgfbmlaaGreat.Num Go.Proofs.YtofklpmlgfbmlaaGreat.ZRatP
set_option linter.unusedSimpArgs false
set_option linter.unusedVariables false
set_option maxHeartbeats 8000000
set_option maxRecDepth 100000
theorem tL : turnC 0 0 4 0 0 3 := by unfold turnC canP inP crossZ; decide
theorem sL : sidesZ 0 0 4 0 0 3 = (9, 16, 25) := by decide
theorem cL : crossZ 0 0 4 0 0 3 = 12 := by decide
theorem aL : angZ (9, 16, 25) = 0 := by decide
theorem slL : slimZ 0 0 4 0 0 3 = 25 / 36 := by
  unfold slimZ radZ
  rw [sL, cL, show distZ 0 0 4 0 = 16 from by decide, show distZ 4 0 0 3 = 25 from by decide, show distZ 0 3 0 0 = 9 from by decide]
  decide +kernel
theorem slLn : ((25 : Rat) / 36).num = 25 ∧ ((25 : Rat) / 36).den = 36 := by decide +kernel
theorem NBd (n : Nat) (h0 : 0 < n) (h : n < 10) : NB 10 n = [(n : Int)] := by
  rw [NB_pos (by omega) h0, Nat.mod_eq_of_lt h, Nat.div_eq_of_lt h, NB_zero]
theorem showL : showP 25 36 = (⟨#[50, 53, 47, 51, 54]⟩ : ByteArray) := by
  unfold showP showZ showS decS
  rw [if_neg (by omega), if_neg (by omega), show (25 : Int).natAbs = 25 from rfl, if_neg (by omega), if_neg (by omega), NB_pos (b := 10) (n := 36) (by omega) (by omega), NBd (36 / 10) (by omega) (by omega), NB_pos (b := 10) (n := 25) (by omega) (by omega), NBd (25 / 10) (by omega) (by omega)]
  rfl
theorem rl25 : rintC 10000 (.int .i64 (Int.sign 25)) (.row (NB 65536 25).length ((NB 65536 25).map (.int .i64))) = some 25 := rlit 25 (Nat.le_trans (NB_length_le (by omega) _ 1 (by decide)) (by omega))
theorem rl36 : rintC 10000 (.int .i64 (Int.sign 36)) (.row (NB 65536 36).length ((NB 65536 36).map (.int .i64))) = some 36 := rlit 36 (Nat.le_trans (NB_length_le (by omega) _ 1 (by decide)) (by omega))
theorem rnL : rn 25 36 = 25 ∧ rD 36 = 36 ∧ mkRat 25 36 = 25 / 36 := by decide +kernel
theorem rn_den (q : Rat) : rn q.num q.den = q.num := by unfold rn; rw [if_neg q.den_nz]
theorem rD_den (q : Rat) : rD q.den = (q.den : Int) := by unfold rD; rw [if_neg q.den_nz]
theorem den_ne (q : Rat) : ((q.den : Int) = 0) = False := eq_false (by have := q.den_nz; omega)
theorem szSlim {ax ay bx bY cx cy : Int} (h : canP ax ay ∧ canP bx bY ∧ canP cx cy) : SzQ (slimZ ax ay bx bY cx cy) 112 := by
  have sb := (sides_b h).1
  have i := h
  unfold canP inP at i
  haveI : SzI ax 2 := ⟨by omega⟩
  haveI : SzI ay 2 := ⟨by omega⟩
  haveI : SzI bx 2 := ⟨by omega⟩
  haveI : SzI bY 2 := ⟨by omega⟩
  haveI : SzI cx 2 := ⟨by omega⟩
  haveI : SzI cy 2 := ⟨by omega⟩
  haveI := szRadQ (ax := ax) (ay := ay) (bx := bx) (bY := bY) (cx := cx) (cy := cy)
  haveI : SzI (sidesZ ax ay bx bY cx cy).1 3 := ⟨by omega⟩
  unfold slimZ
  exact (inferInstance : SzQ (radZ ax ay bx bY cx cy / ((sidesZ ax ay bx bY cx cy).1 : Rat)) _)
theorem szSin {ax ay bx bY cx cy : Int} (h : canP ax ay ∧ canP bx bY ∧ canP cx cy) : SzQ (sinZ ax ay bx bY cx cy) 14 := by
  obtain ⟨-, s1, s2⟩ := sides_b h
  have cb := cross_b h
  haveI : SzI (sidesZ ax ay bx bY cx cy).2.1 3 := ⟨by omega⟩
  haveI : SzI (sidesZ ax ay bx bY cx cy).2.2 3 := ⟨by omega⟩
  haveI : SzI (crossZ ax ay bx bY cx cy) 3 := ⟨by omega⟩
  unfold sinZ
  exact (inferInstance : SzQ (((crossZ ax ay bx bY cx cy * crossZ ax ay bx bY cx cy : Int) : Rat) / (((sidesZ ax ay bx bY cx cy).2.1 * (sidesZ ax ay bx bY cx cy).2.2 : Int) : Rat)) _)
noncomputable def L35lives : List AV → Option AV
  | [] => some (.bool true)
  | _ => none
noncomputable def E_L35lives : Env := mkS [(27, QOf35), (37, QSlim), (23, FOf), (55, FShow)] [] []
theorem run_L35lives  : AEnds E_L35lives (finW Tryz.prog Tryz.f29.results) 0 [.code (Tryz.f29.body.getD .skip)] (startA Tryz.f29 [] [] []) (.bool true) := by
  simp only [Tryz.f29, Option.getD_some, startA]
  haveI : SzN 25 1 := ⟨by decide⟩
  haveI : SzI 25 1 := ⟨by decide⟩
  haveI : SzN 36 1 := ⟨by decide⟩
  haveI : SzI 36 1 := ⟨by decide⟩
  simp (maxSteps := 4000000) (disch := (first | with_reducible rfl | assumption | with_reducible exact WB_NB _ _ | (with_reducible refine nb_le ?_; omega) | (with_reducible refine nb16_le ?_; omega) | omega | (simp only [List.length_append, List.length_map, List.length_cons, List.length_nil, List.length_set, List.length_replicate, List.length_take, List.size_toArray]; omega))) [E_L35lives, nilOp, tL, sL, cL, aL, slL, slLn.1, slLn.2, rl25, rl36, rnL, showL]
theorem sL35lives : GoodS (29, L35lives) := by
  intro xs r h
  simp only at h
  unfold L35lives at h
  split at h
  · skip
    cases h
    exact .inl <| okW_ends (mkS_ok (alls_cons sQOf35 (alls_cons sQSlim (alls_cons sFOf (alls_cons sFShow alls_nil))))) mixed Tryz.func29 rfl (by kernel_rfl : Fits Tryz.prog E_L35lives.ref E_L35lives.dep Tryz.f29 = true) (run_L35lives )
  · cases h
attribute [simp] L35lives
end Go.Proofs.YtofklpmlgfbmlaaGreat.ZRat
