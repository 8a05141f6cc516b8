/- Of corners that turn left all the way round the center of weight lies within. -/
import Derived.Test.YtofklpmlgfbmlaaC10
import Derived.Test.YtofklpmlgfbmlaaC11
import Derived.Test.YtofklpmlgfbmlaaC12
import Derived.Test.YtofklpmlgfbmlaaC8
set_option linter.unusedVariables false
set_option linter.unusedSimpArgs false
namespace Go.Proofs.Ytofklpmlgfbmlaa.ZRat
open Go.RowKit Go.Proofs.Ytofklpmlgfbmlaa.Wd
open Go Go.Proofs.Ytofklpmlgfbmlaa.Ab Go.Proofs Go.Proofs.Ytofklpmlgfbmlaa.Num Go.Proofs.Ytofklpmlgfbmlaa.ZRatP
set_option linter.unusedSimpArgs false
set_option linter.unusedVariables false
set_option maxHeartbeats 8000000
set_option maxRecDepth 100000
theorem num_nn {q : Rat} : (¬ q.num < 0) ↔ 0 ≤ q := by rw [Int.not_lt]; exact Rat.num_nonneg
theorem leftB_of {l : List P2} {s : P2} (h : leftOf l s) : ∀ m, m ≤ l.length → leftB l s m = true
  | 0, _ => rfl
  | m + 1, hm => by
    simp only [leftB, leftB_of h m (by omega), Bool.true_and, decide_eq_true_eq]
    exact num_nn.2 (h m (by omega))
theorem inside_iff {l : List P2} {s : P2} : insideB l s = true ↔ leftOf l s ∧ 3 ≤ l.length := by
  unfold insideB
  rw [Bool.and_eq_true, decide_eq_true_eq]
  constructor
  · rintro ⟨h, k⟩
    exact ⟨fun i hi => num_nn.1 (leftB_all h i hi), k⟩
  · rintro ⟨h, k⟩
    exact ⟨leftB_of h _ (Nat.le_refl _), k⟩
theorem within_B {l : List P2} (h : ∀ j, j < l.length → insideB l (pAt l j) = true) (hA : ¬ areaQ l = 0) (hn : ¬ (areaQ l).num < 0) : insideB l (centQ l) = true := by
  have hp : 0 < areaQ l := by
    have := num_nn.1 hn
    rcases Rat.le_iff_lt_or_eq.1 this with q | q
    · exact q
    · exact (hA q.symm).elim
  refine inside_iff.2 ⟨within (fun j hj => (inside_iff.1 (h j hj)).1) hp, ?_⟩
  rcases Nat.lt_or_ge l.length 3 with q | q
  · exact (hA (sum_small acr_anti l q)).elim
  · exact q
theorem first_out {f : Nat → Bool} : ∀ {n : Nat}, ¬ (∀ j, j < n → f j = true) → ∃ j, j < n ∧ (∀ i, i < j → f i = true) ∧ f j = false
  | 0, h => (h fun j hj => by omega).elim
  | n + 1, h => by
    by_cases hn : ∀ j, j < n → f j = true
    · refine ⟨n, by omega, hn, ?_⟩
      cases hf : f n with
      | false => rfl
      | true =>
        refine (h fun j hj => ?_).elim
        rcases Nat.lt_or_ge j n with q | q
        · exact hn j q
        · have e : j = n := by omega
          rw [e]; exact hf
    · obtain ⟨j, h1, h2, h3⟩ := first_out hn
      exact ⟨j, by omega, h2, h3⟩
noncomputable def E_PolyWithin : Env := mkS [(17, Pfew), (21, GAll), (28, GInside), (23, PCent), (27, PInside), (20, GArea), (22, L20lives)] [(4, [0, 3, 4])] []
theorem run_PolyWithin (r0 : List RS) (w0 : ∀ p ∈ r0, wbS p) : AEnds E_PolyWithin (finW Try.prog Try.f9.results) 0 [.code (Try.f9.body.getD .skip)] (startA Try.f9 [rowS r0] [] []) (.bool true) := by
  obtain ⟨okR, lnR⟩ := few_ok w0
  have dU := rowU r0
  unfold rowS
  obtain ⟨R, hR⟩ : ∃ R, fewS r0 = R := ⟨_, rfl⟩
  rw [hR] at okR lnR
  have lnR8 : R.length ≤ 8 := by omega
  have d9 := row9 okR lnR8 (by omega)
  have dG := rowG okR lnR8
  haveI zA := areaW okR lnR8
  obtain ⟨zX, zY⟩ := centW okR lnR8
  have wB := within_B (l := R.map valS)
  simp only [Try.f9, Option.getD_some, startA]
  simp (maxSteps := 4000000) (disch := (first | with_reducible rfl | assumption | with_reducible exact WB_NB _ _ | (with_reducible refine nb_le ?_; omega) | (with_reducible refine nb16_le ?_; omega) | omega | (simp only [List.length_append, List.length_map, List.length_cons, List.length_nil, List.length_set, List.length_replicate, List.length_take, List.size_toArray]; omega))) [E_PolyWithin, dU, hR, d9, den_ne, den_pos', Rat.den_pos, rden, mkSelf, Rat.mkRat_self, rowS, rowR, -Int.sign_mul, -Int.sign_neg, -Int.natAbs_neg]
  let C : Nat → AS := fun i => ⟨[.row R.length (R.flatMap cellsS), .any, .any, .row R.length ((R.map valS).flatMap cellsR), .int .i64 i, .any, .any, .any, .any, .any, .any, .any, .any, .any, .any, .any, .any, .any, .any, .any, .any, .any, .any, .any, .any, .any, .any, .any, .any, .any, .any, .any, .any, .any, .any, .any, .any, .any, .any, .any, .any, .any, .any, .any, .any, .any, .any], [], []⟩
  by_cases hall : ∀ j, j < R.length → insideB (R.map valS) (pAt (R.map valS) j) = true
  · refine loop_up C R.length ?_ (fun i hi IH => ?_) ?_
    · simp only [E_PolyWithin, firstR, mkS_keep, mkQ_keep, keepT, List.find?, Nat.reduceBEq, Option.map_some, Option.getD_some]
      simp (maxSteps := 4000000) (disch := (first | with_reducible rfl | assumption | with_reducible exact WB_NB _ _ | (with_reducible refine nb_le ?_; omega) | (with_reducible refine nb16_le ?_; omega) | omega | (simp only [List.length_append, List.length_map, List.length_cons, List.length_nil, List.length_set, List.length_replicate, List.length_take, List.size_toArray]; omega))) [E_PolyWithin, C]
    · have hB := hall i hi
      simp only [C] at IH ⊢
      clear C hall wB
      have hi1 : (i : Int) < (R.length : Int) := by omega
      have hw : wrap64 ((i : Int) + 1) = (i : Int) + 1 := w64s (by omega)
      have r1 := chunkR (l := R.map valS) (i := i) (by rw [List.length_map]; omega)
      have s1 := okP_at (vals_ok okR) (i := i) (by rw [List.length_map]; omega)
      have hl : ((R.map valS).flatMap cellsR).length = R.length * 8 := by rw [lenR, List.length_map]
      have b1 : i * 8 + 8 ≤ R.length * 8 := le8 (by omega)
      generalize pAt (R.map valS) i = a at *
      generalize (R.map valS).flatMap cellsR = Q at *
      obtain ⟨ax, ay⟩ := a
      obtain ⟨i1, i2⟩ := s1
      simp only at i1 i2
      simp only [cellsR] at r1
      simp (maxSteps := 4000000) (disch := (first | with_reducible rfl | assumption | with_reducible exact WB_NB _ _ | (with_reducible refine nb_le ?_; omega) | (with_reducible refine nb16_le ?_; omega) | omega | (simp only [List.length_append, List.length_map, List.length_cons, List.length_nil, List.length_set, List.length_replicate, List.length_take, List.size_toArray]; omega))) [E_PolyWithin, hi1, hw, r1, hl, b1, hB, dG, cellsR, den_ne, den_pos', Rat.den_pos, rden, mkSelf, Rat.mkRat_self, -Int.sign_mul, -Int.sign_neg, -Int.natAbs_neg]
      refine again_of ?_ IH
      simp only [E_PolyWithin, firstR, mkS_keep, mkQ_keep, keepT, List.find?, Nat.reduceBEq, Option.map_some, Option.getD_some]
      simp (maxSteps := 4000000) (disch := (first | with_reducible rfl | assumption | with_reducible exact WB_NB _ _ | (with_reducible refine nb_le ?_; omega) | (with_reducible refine nb16_le ?_; omega) | omega | (simp only [List.length_append, List.length_map, List.length_cons, List.length_nil, List.length_set, List.length_replicate, List.length_take, List.size_toArray]; omega))) [E_PolyWithin]
    · simp only [C]
      replace wB := wB (fun j hj => hall j (by rwa [List.length_map] at hj))
      clear hall C
      generalize hA : areaQ (R.map valS) = A at *
      by_cases h0 : A = 0
      · simp (maxSteps := 4000000) (disch := (first | with_reducible rfl | assumption | with_reducible exact WB_NB _ _ | (with_reducible refine nb_le ?_; omega) | (with_reducible refine nb16_le ?_; omega) | omega | (simp only [List.length_append, List.length_map, List.length_cons, List.length_nil, List.length_set, List.length_replicate, List.length_take, List.size_toArray]; omega))) [E_PolyWithin, d9, dG, hA, h0, den_ne, den_pos', Rat.den_pos, rden, mkSelf, Rat.mkRat_self, rowS, rowR, -Int.sign_mul, -Int.sign_neg, -Int.natAbs_neg]
      · generalize hC : centQ (R.map valS) = c at *
        obtain ⟨cx, cy⟩ := c
        simp only at zX zY
        by_cases hn : A.num < 0
        · generalize hI : insideB (R.map valS) (cx, cy) = B at *
          cases B with
          | true => simp (maxSteps := 4000000) (disch := (first | with_reducible rfl | assumption | with_reducible exact WB_NB _ _ | (with_reducible refine nb_le ?_; omega) | (with_reducible refine nb16_le ?_; omega) | omega | (simp only [List.length_append, List.length_map, List.length_cons, List.length_nil, List.length_set, List.length_replicate, List.length_take, List.size_toArray]; omega))) [E_PolyWithin, d9, dG, hA, h0, hC, hI, hn, sgnLt, den_ne, den_pos', Rat.den_pos, rden, mkSelf, Rat.mkRat_self, rowS, rowR, -Int.sign_mul, -Int.sign_neg, -Int.natAbs_neg]
          | false => simp (maxSteps := 4000000) (disch := (first | with_reducible rfl | assumption | with_reducible exact WB_NB _ _ | (with_reducible refine nb_le ?_; omega) | (with_reducible refine nb16_le ?_; omega) | omega | (simp only [List.length_append, List.length_map, List.length_cons, List.length_nil, List.length_set, List.length_replicate, List.length_take, List.size_toArray]; omega))) [E_PolyWithin, d9, dG, hA, h0, hC, hI, hn, sgnLt, den_ne, den_pos', Rat.den_pos, rden, mkSelf, Rat.mkRat_self, rowS, rowR, -Int.sign_mul, -Int.sign_neg, -Int.natAbs_neg]
        · have hI := wB h0 hn
          simp (maxSteps := 4000000) (disch := (first | with_reducible rfl | assumption | with_reducible exact WB_NB _ _ | (with_reducible refine nb_le ?_; omega) | (with_reducible refine nb16_le ?_; omega) | omega | (simp only [List.length_append, List.length_map, List.length_cons, List.length_nil, List.length_set, List.length_replicate, List.length_take, List.size_toArray]; omega))) [E_PolyWithin, d9, dG, hA, h0, hC, hI, den_ne, den_pos', Rat.den_pos, rden, mkSelf, Rat.mkRat_self, rowS, rowR, -Int.sign_mul, -Int.sign_neg, -Int.natAbs_neg]
  · obtain ⟨j, hj, hj1, hj2⟩ := first_out hall
    refine loop_up C j ?_ (fun i hi IH => ?_) ?_
    · simp only [E_PolyWithin, firstR, mkS_keep, mkQ_keep, keepT, List.find?, Nat.reduceBEq, Option.map_some, Option.getD_some]
      simp (maxSteps := 4000000) (disch := (first | with_reducible rfl | assumption | with_reducible exact WB_NB _ _ | (with_reducible refine nb_le ?_; omega) | (with_reducible refine nb16_le ?_; omega) | omega | (simp only [List.length_append, List.length_map, List.length_cons, List.length_nil, List.length_set, List.length_replicate, List.length_take, List.size_toArray]; omega))) [E_PolyWithin, C]
    · have hB := hj1 i hi
      simp only [C] at IH ⊢
      clear C hall wB hj1 hj2
      have hi1 : (i : Int) < (R.length : Int) := by omega
      have hw : wrap64 ((i : Int) + 1) = (i : Int) + 1 := w64s (by omega)
      have r1 := chunkR (l := R.map valS) (i := i) (by rw [List.length_map]; omega)
      have s1 := okP_at (vals_ok okR) (i := i) (by rw [List.length_map]; omega)
      have hl : ((R.map valS).flatMap cellsR).length = R.length * 8 := by rw [lenR, List.length_map]
      have b1 : i * 8 + 8 ≤ R.length * 8 := le8 (by omega)
      generalize pAt (R.map valS) i = a at *
      generalize (R.map valS).flatMap cellsR = Q at *
      obtain ⟨ax, ay⟩ := a
      obtain ⟨i1, i2⟩ := s1
      simp only at i1 i2
      simp only [cellsR] at r1
      simp (maxSteps := 4000000) (disch := (first | with_reducible rfl | assumption | with_reducible exact WB_NB _ _ | (with_reducible refine nb_le ?_; omega) | (with_reducible refine nb16_le ?_; omega) | omega | (simp only [List.length_append, List.length_map, List.length_cons, List.length_nil, List.length_set, List.length_replicate, List.length_take, List.size_toArray]; omega))) [E_PolyWithin, hi1, hw, r1, hl, b1, hB, dG, cellsR, den_ne, den_pos', Rat.den_pos, rden, mkSelf, Rat.mkRat_self, -Int.sign_mul, -Int.sign_neg, -Int.natAbs_neg]
      refine again_of ?_ IH
      simp only [E_PolyWithin, firstR, mkS_keep, mkQ_keep, keepT, List.find?, Nat.reduceBEq, Option.map_some, Option.getD_some]
      simp (maxSteps := 4000000) (disch := (first | with_reducible rfl | assumption | with_reducible exact WB_NB _ _ | (with_reducible refine nb_le ?_; omega) | (with_reducible refine nb16_le ?_; omega) | omega | (simp only [List.length_append, List.length_map, List.length_cons, List.length_nil, List.length_set, List.length_replicate, List.length_take, List.size_toArray]; omega))) [E_PolyWithin]
    · have hB := hj2
      simp only [C]
      clear C hall wB hj1 hj2
      generalize j = i at *
      have hi1 : (i : Int) < (R.length : Int) := by omega
      have hw : wrap64 ((i : Int) + 1) = (i : Int) + 1 := w64s (by omega)
      have r1 := chunkR (l := R.map valS) (i := i) (by rw [List.length_map]; omega)
      have s1 := okP_at (vals_ok okR) (i := i) (by rw [List.length_map]; omega)
      have hl : ((R.map valS).flatMap cellsR).length = R.length * 8 := by rw [lenR, List.length_map]
      have b1 : i * 8 + 8 ≤ R.length * 8 := le8 (by omega)
      generalize pAt (R.map valS) i = a at *
      generalize (R.map valS).flatMap cellsR = Q at *
      obtain ⟨ax, ay⟩ := a
      obtain ⟨i1, i2⟩ := s1
      simp only at i1 i2
      simp only [cellsR] at r1
      simp (maxSteps := 4000000) (disch := (first | with_reducible rfl | assumption | with_reducible exact WB_NB _ _ | (with_reducible refine nb_le ?_; omega) | (with_reducible refine nb16_le ?_; omega) | omega | (simp only [List.length_append, List.length_map, List.length_cons, List.length_nil, List.length_set, List.length_replicate, List.length_take, List.size_toArray]; omega))) [E_PolyWithin, hi1, hw, r1, hl, b1, hB, dG, cellsR, den_ne, den_pos', Rat.den_pos, rden, mkSelf, Rat.mkRat_self, -Int.sign_mul, -Int.sign_neg, -Int.natAbs_neg]
theorem law_PolyWithin (r0 : List RS) (w0 : ∀ p ∈ r0, wbS p) : OkV Try.prog 9 [rowS r0] (.bool true) :=
  okW_ends (mkS_ok (alls_cons sPfew (alls_cons sGAll (alls_cons sGInside (alls_cons sPCent (alls_cons sPInside (alls_cons sGArea (alls_cons sL20lives alls_nil)))))))) mixed Try.func9 rfl (by kernel_rfl : Fits Try.prog E_PolyWithin.ref E_PolyWithin.dep Try.f9 = true) (run_PolyWithin r0 w0)
end Go.Proofs.Ytofklpmlgfbmlaa.ZRat
