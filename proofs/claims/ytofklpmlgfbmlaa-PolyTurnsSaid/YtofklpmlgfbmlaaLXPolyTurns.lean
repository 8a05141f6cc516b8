/- It does not hang on from which spot a polygon is told, nor whether one is told twice, and the other way round its area has the other sign. -/
import Derived.Test.YtofklpmlgfbmlaaC10
import Derived.Test.YtofklpmlgfbmlaaC11
import Derived.Test.YtofklpmlgfbmlaaC12
import Derived.Test.YtofklpmlgfbmlaaC8
import Derived.Test.YtofklpmlgfbmlaaC9
set_option linter.unusedVariables false
set_option linter.unusedSimpArgs false
namespace Go.Proofs.Ytofklpmlgfbmlaa.ZRat
open Go.RowKit Go.Proofs.Ytofklpmlgfbmlaa.Wd
open Go Go.Proofs.Ytofklpmlgfbmlaa.Ab Go.Proofs Go.Proofs.Ytofklpmlgfbmlaa.Num Go.Proofs.Ytofklpmlgfbmlaa.ZRatP
set_option linter.unusedSimpArgs false
set_option linter.unusedVariables false
set_option maxHeartbeats 8000000
set_option maxRecDepth 100000
theorem dropS (l : List RS) : ∀ k, (l.flatMap cellsS).drop (k * 6) = (l.drop k).flatMap cellsS := by
  induction l with
  | nil => intro k; simp
  | cons x l ih =>
    intro k
    cases k with
    | zero => simp
    | succ k =>
      have e : (cellsS x ++ l.flatMap cellsS).drop 6 = l.flatMap cellsS := by rw [show 6 = (cellsS x).length from rfl, List.drop_left]
      rw [List.flatMap_cons, Nat.add_mul, Nat.one_mul, Nat.add_comm, ← List.drop_drop, e, ih k, List.drop_succ_cons]
theorem takeK (l : List RS) (k : Nat) (h : k ≤ l.length) : (l.flatMap cellsS).take (k * 6) = (l.take k).flatMap cellsS := flat_take (c := cellsS) (n := 6) (fun _ => rfl) k l h
def turnS (l : List RS) (k : Nat) : List RS := l.drop k ++ l.take k
def twiceS (l : List RS) (k : Nat) : List RS := l.take k ++ sAt l k :: l.drop k
theorem split_at (l : List RS) {k : Nat} (h : k < l.length) : l = l.take k ++ sAt l k :: l.drop (k + 1) := by
  have := List.take_append_drop k l
  rw [List.drop_eq_getElem_cons h] at this
  have e : sAt l k = l[k] := by rw [sAt, List.getD_eq_getElem?_getD, List.getElem?_eq_getElem h]; rfl
  rw [e]; exact this.symm
theorem drop_at (l : List RS) {k : Nat} (h : k < l.length) : l.drop k = sAt l k :: l.drop (k + 1) := by
  rw [List.drop_eq_getElem_cons h]
  have e : sAt l k = l[k] := by rw [sAt, List.getD_eq_getElem?_getD, List.getElem?_eq_getElem h]; rfl
  rw [e]
section
variable {f : P2 → P2 → Rat} (ha : ∀ a b, f a b = -f b a)
theorem turn_sum (l : List RS) (k : Nat) : sumTo f ((turnS l k).map valS) ((turnS l k).map valS).length = sumTo f (l.map valS) (l.map valS).length := by
  unfold turnS
  rw [List.map_append, sum_rot, ← List.map_append, List.take_append_drop]
include ha
theorem twice_sum (l : List RS) {k : Nat} (h : k < l.length) : sumTo f ((twiceS l k).map valS) ((twiceS l k).map valS).length = sumTo f (l.map valS) (l.map valS).length := by
  unfold twiceS
  rw [drop_at l h, List.map_append, List.map_cons, List.map_cons, sum_dup ha, ← List.map_cons, ← List.map_append, ← split_at l h]
theorem back_sum (l : List RS) : sumTo f (l.reverse.map valS) (l.reverse.map valS).length = -sumTo f (l.map valS) (l.map valS).length := by
  rw [List.map_reverse, sum_rev ha]
end
theorem turn_cent (l : List RS) (k : Nat) : areaQ ((turnS l k).map valS) = areaQ (l.map valS) ∧ centQ ((turnS l k).map valS) = centQ (l.map valS) := by
  unfold centQ sumX sumY areaQ
  simp only [turn_sum, and_self]
theorem twice_cent (l : List RS) {k : Nat} (h : k < l.length) : areaQ ((twiceS l k).map valS) = areaQ (l.map valS) ∧ centQ ((twiceS l k).map valS) = centQ (l.map valS) := by
  unfold centQ sumX sumY areaQ
  simp only [twice_sum acr_anti l h, twice_sum momX_anti l h, twice_sum momY_anti l h, and_self]
theorem back_area (l : List RS) : areaQ (l.reverse.map valS) = -areaQ (l.map valS) := back_sum acr_anti l
theorem turn_len (l : List RS) {k : Nat} (h : k < l.length) : (turnS l k).length = l.length := by unfold turnS; rw [List.length_append, List.length_drop, List.length_take]; omega
theorem twice_len (l : List RS) {k : Nat} (h : k < l.length) : (twiceS l k).length = l.length + 1 := by unfold twiceS; rw [List.length_append, List.length_cons, List.length_drop, List.length_take]; omega
theorem turn_ok {L : Nat} {l : List RS} (h : ∀ p ∈ l, okS L p) (k : Nat) : ∀ p ∈ turnS l k, okS L p := fun p hp => by
  rcases List.mem_append.1 hp with q | q
  · exact h p (List.mem_of_mem_drop q)
  · exact h p (List.mem_of_mem_take q)
theorem twice_ok {L : Nat} {l : List RS} (h : ∀ p ∈ l, okS L p) {k : Nat} (hk : k < l.length) : ∀ p ∈ twiceS l k, okS L p := fun p hp => by
  rcases List.mem_append.1 hp with q | q
  · exact h p (List.mem_of_mem_take q)
  · rcases List.mem_cons.1 q with r | r
    · exact r ▸ sAt_ok h hk
    · exact h p (List.mem_of_mem_drop r)
theorem back_next (l : List RS) {i : Nat} (hi : i < l.length) : (l.reverse.take (i + 1)).flatMap cellsS = (l.reverse.take i).flatMap cellsS ++ cellsS (sAt l (l.length - 1 - i)) := by
  have h : l.reverse[i]? = some (sAt l (l.length - 1 - i)) := by
    rw [List.getElem?_reverse hi, sAt_get (by omega)]
  rw [List.take_add_one, List.flatMap_append, h]; simp
theorem rn01 : rn 0 1 = 0 ∧ rD 1 = 1 := by decide +kernel
theorem negSelf (q : Rat) : mkRat (-q.num) q.den = -q := by rw [← Rat.neg_mkRat, Rat.mkRat_self]
theorem mod_k {a n : Int} (h : 0 ≤ a) (hn : 0 < n) : 0 ≤ a.tmod n ∧ a.tmod n < n := ⟨Int.tmod_nonneg _ h, by rw [Int.tmod_eq_emod_of_nonneg h]; exact Int.emod_lt_of_pos a hn⟩
noncomputable def E_PolyTurns : Env := mkS [(17, Pfew), (23, PCent), (19, PArea2), (32, FOf), (35, FNeg), (34, FLong), (18, FSame), (21, GAll), (24, GCent), (25, RSame9), (22, L20lives)] [(9, [0, 6, 7, 8, 9])] [(5, [([], [], false), ([], [], false), ([], [], false), ([], [], false), ([0], [], true), ([], [], false), ([], [], false), ([], [4], false), ([0, 1], [], false), ([], [], false)]), (6, [([], [], false), ([], [], false), ([], [], false), ([], [], false), ([0], [], true), ([], [], false), ([], [], false), ([], [], false), ([], [4], false), ([], [4], false), ([0, 1, 2], [], true), ([], [], false), ([], [], false), ([], [4, 10], false), ([0, 1, 2, 3], [], false), ([], [], false)])]
theorem run_PolyTurns (r0 : List RS) (w0 : ∀ p ∈ r0, wbS p) (a1 : Int) (c1 : 0 ≤ a1 ∧ a1 < 256) : AEnds E_PolyTurns (finW Try.prog Try.f8.results) 0 [.code (Try.f8.body.getD .skip)] (startA Try.f8 [rowS r0, .int .u8 a1] [] []) (.bool true) := by
  obtain ⟨okR, lnR⟩ := few_ok w0
  have dU := rowU r0
  unfold rowS
  obtain ⟨R, hR⟩ : ∃ R, fewS r0 = R := ⟨_, rfl⟩
  rw [hR] at okR lnR
  have lnR8 : R.length ≤ 8 := by omega
  have d9 := row9 okR lnR8 (by omega)
  have dG := rowG okR lnR8
  haveI zA := areaW okR lnR8
  obtain ⟨zX, zY⟩ := centW okR lnR8
  simp only [Try.f8, Option.getD_some, startA]
  by_cases h3 : (R.length : Int) < 3
  · have hA : areaQ (R.map valS) = 0 := sum_small acr_anti _ (by rw [List.length_map]; omega)
    simp (maxSteps := 4000000) (disch := (first | with_reducible rfl | assumption | with_reducible exact WB_NB _ _ | (with_reducible refine nb_le ?_; omega) | (with_reducible refine nb16_le ?_; omega) | omega | (simp only [List.length_append, List.length_map, List.length_cons, List.length_nil, List.length_set, List.length_replicate, List.length_take, List.size_toArray]; omega))) [E_PolyTurns, dU, hR, d9, hA, h3, rowS, Rat.zero_mkRat, den_ne, den_pos', Rat.den_pos, rden, mkSelf, Rat.mkRat_self, -Int.sign_mul, -Int.sign_neg, -Int.natAbs_neg, -Rat.mkRat_mul_mkRat]
  · obtain ⟨k, hk⟩ : ∃ k : Nat, a1.tmod (R.length : Int) = (k : Int) := ⟨(a1.tmod (R.length : Int)).toNat, by have := mod_k c1.1 (show (0 : Int) < (R.length : Int) by omega); omega⟩
    have hkl : k < R.length := by have := mod_k c1.1 (show (0 : Int) < (R.length : Int) by omega); rw [hk] at this; omega
    have hn0 : ¬ (R.length : Int) = 0 := by omega
    have hne : ¬ R = [] := fun h => by rw [h] at hkl; simp at hkl
    have hw8 : wrap64 a1 = a1 := w64in _ (by omega) (by omega)
    have hkw : wrap64 (k : Int) = (k : Int) := w64in _ (by omega) (by omega)
    have lQ := lenS R
    have lX : ((R.drop k).flatMap cellsS).length = (R.length - k) * 6 := by rw [lenS, List.length_drop]
    have lY : ((R.take k).flatMap cellsS).length = k * 6 := by rw [lenS, List.length_take, Nat.min_eq_left (by omega)]
    have e1 : ((R.flatMap cellsS).drop (k * 6)).take ((R.length - k) * 6) = (R.drop k).flatMap cellsS := by rw [dropS]; exact List.take_of_length_le (by omega)
    have e2 := takeK R k (by omega)
    have e3 := chunkS hkl
    have hT : (turnS R k).flatMap cellsS = (R.drop k).flatMap cellsS ++ (R.take k).flatMap cellsS := by unfold turnS; rw [List.flatMap_append]
    have hW : (twiceS R k).flatMap cellsS = (R.take k).flatMap cellsS ++ (cellsS (sAt R k) ++ (R.drop k).flatMap cellsS) := by unfold twiceS; rw [List.flatMap_append, List.flatMap_cons]
    have hmA : 1000 ≤ maxApp := by decide +kernel
    have hmS : 1000 ≤ maxSize := by decide +kernel
    have q1 : (R.length - k) * 112 ≤ maxApp := by omega
    have q2 : R.length - k ≤ maxSize := by omega
    have q3 : k * 112 ≤ maxApp := by omega
    have q4 : k ≤ maxSize := by omega
    have q5 : (k : Int) ≤ (R.length : Int) := by omega
    have q6 : k ≤ R.length := by omega
    have q7 : (k : Int) < (R.length : Int) := by omega
    have q8 : k * 6 + 6 ≤ R.length * 6 := by omega
    have q9 : (R.length - k) * 6 + k * 6 = R.length * 6 := by omega
    have qa : R.length - k + k = R.length := by omega
    have qb : k + 1 + (R.length - k) = R.length + 1 := by omega
    have okT := turn_ok okR k
    have okW := twice_ok okR hkl
    have okB : ∀ p ∈ R.reverse, okS 2 p := fun p hp => okR p (List.mem_reverse.1 hp)
    have lT := turn_len R hkl
    have lW := twice_len R hkl
    have dT := row9 okT (by omega) (by omega)
    have dW := row9 okW (by omega) (by omega)
    have dB := row9 okB (by rw [List.length_reverse]; omega) (by omega)
    rw [hT, lT] at dT
    rw [hW, lW] at dW
    rw [List.length_reverse] at dB
    obtain ⟨tA, tC⟩ := turn_cent R k
    obtain ⟨wA, wC⟩ := twice_cent R hkl
    have bA := back_area R
    have bn := @back_next R
    have cS := fun i (h : i < R.length) => chunkS (l := R) (i := i) h
    clear okT okW okB hT hW lT lW
    generalize hTl : turnS R k = Tl at *
    generalize hWl : twiceS R k = Wl at *
    clear hTl hWl
    generalize hX : (R.drop k).flatMap cellsS = X at *
    generalize hY : (R.take k).flatMap cellsS = Y at *
    generalize hQ : R.flatMap cellsS = Q at *
    generalize hu : sAt R k = u at *
    clear hu
    have t1 : X.take ((R.length - k) * 6) = X := List.take_of_length_le (by omega)
    have t2 : Y.take (k * 6) = Y := List.take_of_length_le (by omega)
    have lXY : (X ++ Y).length = R.length * 6 := by rw [List.length_append]; omega
    have lYX : (Y ++ (cellsS u ++ X)).length = (R.length + 1) * 6 := by rw [List.length_append, List.length_append, show (cellsS u).length = 6 from rfl]; omega
    have e3' := e3
    simp only [cellsS] at e3'
    have hR1 : wrap64 ((R.length : Int) - 1) = (R.length : Int) - 1 := w64in _ (by omega) (by omega)
    simp (maxSteps := 4000000) (disch := (first | with_reducible rfl | assumption | with_reducible exact WB_NB _ _ | (with_reducible refine nb_le ?_; omega) | (with_reducible refine nb16_le ?_; omega) | omega | (simp only [List.length_append, List.length_map, List.length_cons, List.length_nil, List.length_set, List.length_replicate, List.length_take, List.size_toArray]; omega))) [E_PolyTurns, dU, hR, h3, hk, hn0, hne, hw8, hkw, hQ, lQ, lX, lY, e1, e2, e3', t1, t2, q1, q2, q3, q4, q5, q6, q7, q8, q9, qa, qb, hR1, rowS]
    let C : Nat → AS := fun i => ⟨[.row R.length Q, .any, .any, .any, .any, .any, .own 0 0 R.length 6, .own 1 0 (R.length + 1) 6, .own 2 0 i 6, .int .i64 ((R.length : Int) - 1 - (i : Int)), .any, .any, .any, .any, .any, .any, .any, .any, .any, .any, .any, .any, .any, .any, .any, .any, .any, .any, .any, .any, .any, .any, .any, .any, .any, .any, .any, .any, .any, .any, .any, .any, .any, .any, .any, .any, .any, .any, .any, .any, .any, .any, .any, .any, .any, .any, .any, .any, .any, .any, .any, .any, .any, .any, .any, .any, .any, .any, .any, .any, .any, .any, .any, .any, .any, .any, .any, .any, .any, .any, .any, .any, .any, .any, .any, .any, .any, .any, .any, .any, .any, .any, .any, .any, .any, .any, .any, .any, .any, .any, .any, .any, .any, .any, .any, .any, .any, .any, .any, .any, .any, .any, .any, .any, .any, .any, .any, .any, .any, .any, .any, .any, .any, .any, .any, .any, .any, .any, .any, .any, .any, .any, .any, .any], [.arr (X ++ Y), .arr (Y ++ (cellsS u ++ X)), .arr ((R.reverse.take i).flatMap cellsS)], [false, false, false]⟩
    refine loop_up C R.length ?_ (fun i hi IH => ?_) ?_
    · simp only [E_PolyTurns, firstR, mkS_keep, mkQ_keep, keepT, List.find?, Nat.reduceBEq, Option.map_some, Option.getD_some]
      simp (maxSteps := 4000000) (disch := (first | with_reducible rfl | assumption | with_reducible exact WB_NB _ _ | (with_reducible refine nb_le ?_; omega) | (with_reducible refine nb16_le ?_; omega) | omega | (simp only [List.length_append, List.length_map, List.length_cons, List.length_nil, List.length_set, List.length_replicate, List.length_take, List.size_toArray]; omega))) [E_PolyTurns, C, cellsS]
    · have hn := bn hi
      have hj : R.length - 1 - i < R.length := by omega
      have hc := cS (R.length - 1 - i) hj
      have ej : (R.length : Int) - 1 - (i : Int) = ((R.length - 1 - i : Nat) : Int) := by omega
      have hw : wrap64 (((R.length - 1 - i : Nat) : Int) - 1) = (R.length : Int) - 1 - ((i + 1 : Nat) : Int) := by rw [w64in _ (by omega) (by omega)]; omega
      have lP : ((R.reverse.take i).flatMap cellsS).length = i * 6 := by rw [lenS, List.length_take, List.length_reverse, Nat.min_eq_left (by omega)]
      simp only [C] at IH ⊢
      rw [hn] at IH
      clear C bn cS hn tA tC wA wC bA dT dW dB d9 dG
      generalize (R.reverse.take i).flatMap cellsS = P at *
      have tP : P.take (i * 6) = P := List.take_of_length_le (by omega)
      generalize X ++ Y = TT at *
      generalize Y ++ (cellsS u ++ X) = WW at *
      rw [ej]
      generalize sAt R (R.length - 1 - i) = v at *
      obtain ⟨⟨s, l, m⟩, t, p, q⟩ := v
      generalize R.length - 1 - i = j at *
      have hj0 : (0 : Int) ≤ (j : Int) := by omega
      have hj1 : (j : Int) < (R.length : Int) := by omega
      have hj6 : j * 6 + 6 ≤ R.length * 6 := by omega
      simp only [cellsS] at hc
      simp (maxSteps := 4000000) (disch := (first | with_reducible rfl | assumption | with_reducible exact WB_NB _ _ | (with_reducible refine nb_le ?_; omega) | (with_reducible refine nb16_le ?_; omega) | omega | (simp only [List.length_append, List.length_map, List.length_cons, List.length_nil, List.length_set, List.length_replicate, List.length_take, List.size_toArray]; omega))) [E_PolyTurns, hc, hw, hj0, hj1, hj6, hj, lQ, lP, tP, cellsS]
      refine again_of ?_ IH
      simp only [E_PolyTurns, firstR, mkS_keep, mkQ_keep, keepT, List.find?, Nat.reduceBEq, Option.map_some, Option.getD_some]
      simp (maxSteps := 4000000) (disch := (first | with_reducible rfl | assumption | with_reducible exact WB_NB _ _ | (with_reducible refine nb_le ?_; omega) | (with_reducible refine nb16_le ?_; omega) | omega | (simp only [List.length_append, List.length_map, List.length_cons, List.length_nil, List.length_set, List.length_replicate, List.length_take, List.size_toArray]; omega))) [E_PolyTurns, cellsS]
    · have ht : R.reverse.take R.length = R.reverse := List.take_of_length_le (by simp)
      have lZ : (R.reverse.flatMap cellsS).length = R.length * 6 := by rw [lenS, List.length_reverse]
      have hm1 : ¬ (0 : Int) ≤ (R.length : Int) - 1 - (R.length : Int) := by omega
      simp only [C, ht]
      clear C bn cS
      generalize X ++ Y = TT at *
      generalize Y ++ (cellsS u ++ X) = WW at *
      have tTT : TT.take (R.length * 6) = TT := List.take_of_length_le (by omega)
      have tWW : WW.take ((R.length + 1) * 6) = WW := List.take_of_length_le (by omega)
      generalize hB : R.reverse.flatMap cellsS = BB at *
      generalize hBl : R.reverse = Bl at *
      have tBB : BB.take (R.length * 6) = BB := List.take_of_length_le (by omega)
      generalize hA : areaQ (R.map valS) = A at *
      by_cases h0 : A = 0
      · simp (maxSteps := 4000000) (disch := (first | with_reducible rfl | assumption | with_reducible exact WB_NB _ _ | (with_reducible refine nb_le ?_; omega) | (with_reducible refine nb16_le ?_; omega) | omega | (simp only [List.length_append, List.length_map, List.length_cons, List.length_nil, List.length_set, List.length_replicate, List.length_take, List.size_toArray]; omega))) [E_PolyTurns, hQ, dU, d9, dG, dT, dW, dB, lXY, lYX, lZ, tTT, tWW, tBB, hm1, hA, tA, wA, bA, h0, rn01, Rat.neg_zero, Rat.zero_mkRat, rowR, den_ne, den_pos', Rat.den_pos, rden, mkSelf, Rat.mkRat_self, -Int.sign_mul, -Int.sign_neg, -Int.natAbs_neg, -Rat.mkRat_mul_mkRat]
      · generalize hC : centQ (R.map valS) = c at *
        obtain ⟨cx, cy⟩ := c
        simp only at zX zY
        simp (maxSteps := 4000000) (disch := (first | with_reducible rfl | assumption | with_reducible exact WB_NB _ _ | (with_reducible refine nb_le ?_; omega) | (with_reducible refine nb16_le ?_; omega) | omega | (simp only [List.length_append, List.length_map, List.length_cons, List.length_nil, List.length_set, List.length_replicate, List.length_take, List.size_toArray]; omega))) [E_PolyTurns, hQ, dU, d9, dG, dT, dW, dB, lXY, lYX, lZ, tTT, tWW, tBB, hm1, hA, tA, wA, bA, tC, wC, h0, hC, rn_den, rD_den, negSelf, cellsR, rowR, den_ne, den_pos', Rat.den_pos, rden, mkSelf, Rat.mkRat_self, -Int.sign_mul, -Int.sign_neg, -Int.natAbs_neg, -Rat.mkRat_mul_mkRat]
theorem law_PolyTurns (r0 : List RS) (w0 : ∀ p ∈ r0, wbS p) (a1 : Int) (c1 : 0 ≤ a1 ∧ a1 < 256) : OkV Try.prog 8 [rowS r0, .int .u8 a1] (.bool true) :=
  okW_ends (mkS_ok (alls_cons sPfew (alls_cons sPCent (alls_cons sPArea2 (alls_cons sFOf (alls_cons sFNeg (alls_cons sFLong (alls_cons sFSame (alls_cons sGAll (alls_cons sGCent (alls_cons sRSame9 (alls_cons sL20lives alls_nil)))))))))))) mixed Try.func8 rfl (by kernel_rfl : Fits Try.prog E_PolyTurns.ref E_PolyTurns.dep Try.f8 = true) (run_PolyTurns r0 w0 a1 c1)
end Go.Proofs.Ytofklpmlgfbmlaa.ZRat
