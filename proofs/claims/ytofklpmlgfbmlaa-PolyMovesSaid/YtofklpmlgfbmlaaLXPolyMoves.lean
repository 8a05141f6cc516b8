/- A polygon that is moved keeps its area, and its center is moved with it. -/
import Derived.Test.YtofklpmlgfbmlaaC10
import Derived.Test.YtofklpmlgfbmlaaC12
import Derived.Test.YtofklpmlgfbmlaaC8
import Derived.Test.YtofklpmlgfbmlaaC9
set_option linter.unusedVariables false
set_option linter.unusedSimpArgs false
namespace Go.Proofs.Ytofklpmlgfbmlaa.ZRat
open Go.RowKit Go.Proofs.Ytofklpmlgfbmlaa.Wd
open Go Go.Proofs.Ytofklpmlgfbmlaa.Ab Go.Proofs Go.Proofs.Ytofklpmlgfbmlaa.Num Go.Proofs.Ytofklpmlgfbmlaa.ZRatP
set_option linter.unusedSimpArgs false
set_option linter.unusedVariables false
set_option maxHeartbeats 8000000
set_option maxRecDepth 100000
def mvS (x y : Int) (p : RS) : RS := ofP (mvP x y (valS p))
theorem mv_next (x y : Int) (l : List RS) {i : Nat} (hi : i < l.length) : ((l.map (mvS x y)).take (i + 1)).flatMap cellsS = ((l.map (mvS x y)).take i).flatMap cellsS ++ cellsS (mvS x y (sAt l i)) := by
  have h : (l.map (mvS x y))[i]? = some (mvS x y (sAt l i)) := by
    rw [List.getElem?_map, sAt_get hi]; rfl
  rw [List.take_add_one, List.flatMap_append, h]; simp
theorem mv_ok {x y : Int} [SzI x 1] [SzI y 1] {R : List RS} (h : ∀ p ∈ R, okS 2 p) : ∀ p ∈ R.map (mvS x y), okS 9 p := fun p hp => by
  obtain ⟨q, hq, rfl⟩ := List.mem_map.1 hp
  have k := val_ok (h q hq)
  haveI := k.1
  haveI := k.2
  refine ⟨okQ_of (q := (valS q).1 + x) (m := 5 + 2 + 1) (by omega), okQ_of (q := (valS q).2 + y) (m := 5 + 2 + 1) (by omega)⟩
theorem mv_val (x y : Int) (R : List RS) : (R.map (mvS x y)).map valS = (R.map valS).map (mvP x y) := by
  rw [List.map_map, List.map_map]
  refine List.map_congr_left fun p _ => ?_
  simp only [Function.comp, mvS, valS_of]
theorem mv_area (x y : Int) (R : List RS) : areaQ ((R.map (mvS x y)).map valS) = areaQ (R.map valS) := by rw [mv_val]; exact (moved x y _).1
theorem mv_cent (x y : Int) (R : List RS) (h : ¬ areaQ (R.map valS) = 0) : centQ ((R.map (mvS x y)).map valS) = ((centQ (R.map valS)).1 + x, (centQ (R.map valS)).2 + y) := by
  rw [mv_val]
  obtain ⟨h1, h2, h3⟩ := moved x y (R.map valS)
  unfold centQ
  rw [h1, h2, h3]
  generalize areaQ (R.map valS) = A at *
  generalize sumX (R.map valS) = S
  generalize sumY (R.map valS) = T
  clear h1 h2 h3
  congr 1 <;> grind
theorem mv_mk (q : Rat) (u : Int) : mkRat (q.num + u * (q.den : Int)) q.den = q + (u : Rat) := by
  have h := plusE q.num q.den u
  rw [rn_den, rD_den, Int.natAbs_natCast, Rat.mkRat_self] at h
  exact h
theorem i32c {x : Int} (h : -2147483648 ≤ x ∧ x < 2147483648) : wrap64 x = x := w64in _ (by omega) (by omega)
noncomputable def E_PolyMoves : Env := mkS [(17, Pfew), (30, Pplus), (23, PCent), (19, PArea2), (32, FOf), (31, FCmp), (34, FLong), (33, FAdd), (18, FSame), (22, L20lives)] [(4, [0, 1, 2, 7, 8])] [(6, [([], [], false), ([], [], false), ([], [], false), ([], [], false), ([], [], false), ([], [], false), ([], [], false), ([], [], false), ([], [], false), ([], [], false), ([], [], false), ([], [], false), ([], [], false), ([], [], false), ([], [], false), ([], [], false), ([], [], false), ([], [], false), ([], [], false), ([0], [], false), ([], [], false)])]
theorem run_PolyMoves (r0 : List RS) (w0 : ∀ p ∈ r0, wbS p) (a1 : Int) (c1 : -2147483648 ≤ a1 ∧ a1 < 2147483648) (a2 : Int) (c2 : -2147483648 ≤ a2 ∧ a2 < 2147483648) : AEnds E_PolyMoves (finW Try.prog Try.f7.results) 0 [.code (Try.f7.body.getD .skip)] (startA Try.f7 [rowS r0, .int .i32 a1, .int .i32 a2] [] []) (.bool true) := by
  obtain ⟨okR, lnR⟩ := few_ok w0
  have dU := rowU r0
  unfold rowS
  obtain ⟨R, hR⟩ : ∃ R, fewS r0 = R := ⟨_, rfl⟩
  rw [hR] at okR lnR
  have lnR8 : R.length ≤ 8 := by omega
  have d9 := row9 okR lnR8 (by omega)
  have dG := rowG okR lnR8
  haveI zA := areaW okR lnR8
  obtain ⟨zX, zY⟩ := centW okR lnR8
  haveI : SzI a1 1 := ⟨by omega⟩
  haveI : SzI a2 1 := ⟨by omega⟩
  have p1 : -2147483648 ≤ a1 ∧ a1 ≤ 2147483647 := by omega
  have p2 : -2147483648 ≤ a2 ∧ a2 ≤ 2147483647 := by omega
  have g1 : -9223372036854775808 ≤ a1 ∧ a1 < 9223372036854775808 := by omega
  have g2 : -9223372036854775808 ≤ a2 ∧ a2 < 9223372036854775808 := by omega
  have k1 := i32c c1
  have k2 := i32c c2
  have mA := mv_area a1 a2 R
  have mC := mv_cent a1 a2 R
  have okM := mv_ok (x := a1) (y := a2) okR
  have lM : (R.map (mvS a1 a2)).length = R.length := List.length_map _
  simp only [Try.f7, Option.getD_some, startA]
  simp (maxSteps := 4000000) (disch := (first | with_reducible rfl | assumption | with_reducible exact WB_NB _ _ | (with_reducible refine nb_le ?_; omega) | (with_reducible refine nb16_le ?_; omega) | omega | (simp only [List.length_append, List.length_map, List.length_cons, List.length_nil, List.length_set, List.length_replicate, List.length_take, List.size_toArray]; omega))) [E_PolyMoves, dU, hR, rowS]
  let C : Nat → AS := fun i => ⟨[.row R.length (R.flatMap cellsS), .int .i32 a1, .int .i32 a2, .any, .any, .any, .any, .own 0 0 i 6, .int .i64 i, .any, .any, .any, .any, .any, .any, .any, .any, .any, .any, .any, .any, .any, .any, .any, .any, .any, .any, .any, .any, .any, .any, .any, .any, .any, .any, .any, .any, .any, .any, .any, .any, .any, .any, .any, .any, .any, .any, .any, .any, .any, .any, .any, .any, .any, .any, .any, .any, .any, .any, .any, .any, .any, .any, .any, .any, .any, .any, .any, .any, .any, .any, .any, .any, .any, .any, .any, .any, .any, .any, .any, .any, .any, .any, .any, .any, .any, .any, .any, .any, .any, .any, .any, .any, .any], [.arr (((R.map (mvS a1 a2)).take i).flatMap cellsS)], [false]⟩
  refine loop_up C R.length ?_ (fun i hi IH => ?_) ?_
  · simp only [E_PolyMoves, firstR, mkS_keep, mkQ_keep, keepT, List.find?, Nat.reduceBEq, Option.map_some, Option.getD_some]
    simp (maxSteps := 4000000) (disch := (first | with_reducible rfl | assumption | with_reducible exact WB_NB _ _ | (with_reducible refine nb_le ?_; omega) | (with_reducible refine nb16_le ?_; omega) | omega | (simp only [List.length_append, List.length_map, List.length_cons, List.length_nil, List.length_set, List.length_replicate, List.length_take, List.size_toArray]; omega))) [E_PolyMoves, C]
  · have hn := mv_next a1 a2 R hi
    have hk := chunkSX hi
    have hk2 := chunkSY hi
    have hl := lenS R
    have o1 := sAt_ok okR hi
    have hw : wrap64 ((i : Int) + 1) = (i : Int) + 1 := w64s (by omega)
    have hi' : (i : Int) < (R.length : Int) := by omega
    have h6 : i * 6 + 3 ≤ R.length * 6 := by omega
    have h7 : i * 6 + 3 + 3 ≤ R.length * 6 := by omega
    simp only [C] at IH ⊢
    rw [hn] at IH
    have lP : (((R.map (mvS a1 a2)).take i).flatMap cellsS).length = i * 6 := by rw [lenS, List.length_take, List.length_map, Nat.min_eq_left (by omega)]
    clear C hn mA mC okM lM
    generalize ((R.map (mvS a1 a2)).take i).flatMap cellsS = P at *
    have tP : P.take (i * 6) = P := List.take_of_length_le (by omega)
    generalize R.flatMap cellsS = Q at *
    generalize R.length = n at *
    generalize sAt R i = u at *
    obtain ⟨⟨s, l, m⟩, t, p, q⟩ := u
    obtain ⟨⟨⟨wa, xa⟩, wb, xb⟩, ⟨wc, xc⟩, wd, xd⟩ := o1
    simp only at wa xa wb xb wc xc wd xd
    haveI := SzI.val (neg := s) wa xa
    haveI := SzN.val wb xb
    haveI := SzI.val (neg := t) wc xc
    haveI := SzN.val wd xd
    simp only [cellsQ] at hk hk2
    simp only [mvS, ofP, ofQ, mvP, valS, valQ] at IH
    simp (maxSteps := 4000000) (disch := (first | with_reducible rfl | assumption | with_reducible exact WB_NB _ _ | (with_reducible refine nb_le ?_; omega) | (with_reducible refine nb16_le ?_; omega) | omega | (simp only [List.length_append, List.length_map, List.length_cons, List.length_nil, List.length_set, List.length_replicate, List.length_take, List.size_toArray]; omega))) [E_PolyMoves, hk, hk2, hl, hw, hi', h6, h7, lP, tP, k1, k2, p1, p2, cellsS, -Int.sign_mul, -Int.sign_neg, -Int.natAbs_neg, -Rat.mkRat_mul_mkRat]
    refine again_of ?_ IH
    simp only [E_PolyMoves, firstR, mkS_keep, mkQ_keep, keepT, List.find?, Nat.reduceBEq, Option.map_some, Option.getD_some]
    simp (maxSteps := 4000000) (disch := (first | with_reducible rfl | assumption | with_reducible exact WB_NB _ _ | (with_reducible refine nb_le ?_; omega) | (with_reducible refine nb16_le ?_; omega) | omega | (simp only [List.length_append, List.length_map, List.length_cons, List.length_nil, List.length_set, List.length_replicate, List.length_take, List.size_toArray]; omega))) [E_PolyMoves, cellsS, -Int.sign_mul, -Int.sign_neg, -Int.natAbs_neg, -Rat.mkRat_mul_mkRat]
    all_goals exact ⟨rfl, rfl⟩
  · have ht : (R.map (mvS a1 a2)).take R.length = R.map (mvS a1 a2) := List.take_of_length_le (by simp)
    have lZ : ((R.map (mvS a1 a2)).flatMap cellsS).length = R.length * 6 := by rw [lenS, List.length_map]
    have d9M : rowSD 9 8 (.row R.length ((R.map (mvS a1 a2)).flatMap cellsS)) = some (R.map (mvS a1 a2)) := by
      have := row9 okM (by rw [List.length_map]; exact lnR8) (Nat.le_refl _)
      rwa [List.length_map] at this
    simp only [C, ht]
    clear C ht okM lM
    generalize hM : R.map (mvS a1 a2) = M at *
    have tZ : (M.flatMap cellsS).take (R.length * 6) = M.flatMap cellsS := List.take_of_length_le (by omega)
    generalize hA : areaQ (R.map valS) = A at *
    by_cases h0 : A = 0
    · simp (maxSteps := 4000000) (disch := (first | with_reducible rfl | assumption | with_reducible exact WB_NB _ _ | (with_reducible refine nb_le ?_; omega) | (with_reducible refine nb16_le ?_; omega) | omega | (simp only [List.length_append, List.length_map, List.length_cons, List.length_nil, List.length_set, List.length_replicate, List.length_take, List.size_toArray]; omega))) [E_PolyMoves, d9, d9M, lZ, tZ, hA, mA, h0, cmpZ_self, den_ne, den_pos', Rat.den_pos, rden, mkSelf, Rat.mkRat_self, -Int.sign_mul, -Int.sign_neg, -Int.natAbs_neg, -Rat.mkRat_mul_mkRat]
    · replace mC := mC h0
      generalize hC : centQ (R.map valS) = c at *
      obtain ⟨cx, cy⟩ := c
      simp only at zX zY mC
      haveI : SzQ (cx + (a1 : Rat)) (443 + 2 + 1) := inferInstance
      haveI : SzQ (cy + (a2 : Rat)) (443 + 2 + 1) := inferInstance
      simp (maxSteps := 4000000) (disch := (first | with_reducible rfl | assumption | with_reducible exact WB_NB _ _ | (with_reducible refine nb_le ?_; omega) | (with_reducible refine nb16_le ?_; omega) | omega | (simp only [List.length_append, List.length_map, List.length_cons, List.length_nil, List.length_set, List.length_replicate, List.length_take, List.size_toArray]; omega))) [E_PolyMoves, d9, d9M, lZ, tZ, hA, mA, h0, hC, mC, k1, k2, g1, g2, cmpZ_self, rn_den, rD_den, mv_mk, den_ne, den_pos', Rat.den_pos, rden, mkSelf, Rat.mkRat_self, -Int.sign_mul, -Int.sign_neg, -Int.natAbs_neg, -Rat.mkRat_mul_mkRat]
theorem law_PolyMoves (r0 : List RS) (w0 : ∀ p ∈ r0, wbS p) (a1 : Int) (c1 : -2147483648 ≤ a1 ∧ a1 < 2147483648) (a2 : Int) (c2 : -2147483648 ≤ a2 ∧ a2 < 2147483648) : OkV Try.prog 7 [rowS r0, .int .i32 a1, .int .i32 a2] (.bool true) :=
  okW_ends (mkS_ok (alls_cons sPfew (alls_cons sPplus (alls_cons sPCent (alls_cons sPArea2 (alls_cons sFOf (alls_cons sFCmp (alls_cons sFLong (alls_cons sFAdd (alls_cons sFSame (alls_cons sL20lives alls_nil))))))))))) mixed Try.func7 rfl (by kernel_rfl : Fits Try.prog E_PolyMoves.ref E_PolyMoves.dep Try.f7 = true) (run_PolyMoves r0 w0 a1 c1 a2 c2)
end Go.Proofs.Ytofklpmlgfbmlaa.ZRat
