/- Walks by the abstract run: slim circles. -/
import Derived.Test.YtofklpmlgfbmlaaGreatC11
import Derived.Test.YtofklpmlgfbmlaaGreatC15
import Derived.Test.YtofklpmlgfbmlaaGreatC18
import Derived.Test.YtofklpmlgfbmlaaGreatC21
import Derived.Test.YtofklpmlgfbmlaaGreatC8
import Derived.Test.YtofklpmlgfbmlaaGreatC9
set_option linter.unusedVariables false
set_option linter.unusedSimpArgs false
namespace Go.Proofs.YtofklpmlgfbmlaaGreat.ZRat
open Go.RowKit Go.Proofs.YtofklpmlgfbmlaaGreat.Wd
open Go Go.Proofs.YtofklpmlgfbmlaaGreat.Ab Go.Proofs Go.Proofs.YtofklpmlgfbmlaaGreat.Num Go.Proofs.YtofklpmlgfbmlaaGreat.ZRatP
set_option linter.unusedSimpArgs false
set_option linter.unusedVariables false
set_option maxHeartbeats 8000000
set_option maxRecDepth 100000
section
variable {ax ay bx bY cx cy : Int}
theorem szRadQ [SzI ax 2] [SzI ay 2] [SzI bx 2] [SzI bY 2] [SzI cx 2] [SzI cy 2] : SzQ (radZ ax ay bx bY cx cy) 108 := by
  haveI : SzI (distZ ax ay bx bY) 21 := (inferInstance : SzI ((bx - ax) * (bx - ax) + (bY - ay) * (bY - ay)) _)
  haveI : SzI (distZ bx bY cx cy) 21 := (inferInstance : SzI ((cx - bx) * (cx - bx) + (cy - bY) * (cy - bY)) _)
  haveI : SzI (distZ cx cy ax ay) 21 := (inferInstance : SzI ((ax - cx) * (ax - cx) + (ay - cy) * (ay - cy)) _)
  haveI : SzI (crossZ ax ay bx bY cx cy) 21 := (inferInstance : SzI ((bx - ax) * (cy - ay) - (bY - ay) * (cx - ax)) _)
  exact (inferInstance : SzQ (((distZ ax ay bx bY * distZ bx bY cx cy * distZ cx cy ax ay : Int) : Rat) / ((4 * (crossZ ax ay bx bY cx cy * crossZ ax ay bx bY cx cy) : Int) : Rat)) _)
end
/-- How slim; the least angle's sine, squared. -/
def slimZ (ax ay bx bY cx cy : Int) : Rat := radZ ax ay bx bY cx cy / ((sidesZ ax ay bx bY cx cy).1 : Rat)
def sinZ (ax ay bx bY cx cy : Int) : Rat := ((crossZ ax ay bx bY cx cy * crossZ ax ay bx bY cx cy : Int) : Rat) / (((sidesZ ax ay bx bY cx cy).2.1 * (sidesZ ax ay bx bY cx cy).2.2 : Int) : Rat)
theorem dist_pos {ax ay bx bY : Int} (h : ¬ (ax = bx ∧ ay = bY)) : 0 < distZ ax ay bx bY := by
  unfold distZ
  have h1 : 0 ≤ (bx - ax) * (bx - ax) := by
    by_cases q : bx - ax < 0
    · exact Int.le_of_lt (Int.mul_pos_of_neg_of_neg q q)
    · exact Int.mul_nonneg (by omega) (by omega)
  have h2 : 0 ≤ (bY - ay) * (bY - ay) := by
    by_cases q : bY - ay < 0
    · exact Int.le_of_lt (Int.mul_pos_of_neg_of_neg q q)
    · exact Int.mul_nonneg (by omega) (by omega)
  by_cases hx : ax = bx
  · have hy : ¬ bY - ay = 0 := fun q => h ⟨hx, by omega⟩
    have : 0 < (bY - ay) * (bY - ay) := by
      rcases Int.lt_or_gt_of_ne hy with q | q
      · exact Int.mul_pos_of_neg_of_neg q q
      · exact Int.mul_pos q q
    omega
  · have hx' : ¬ bx - ax = 0 := by omega
    have : 0 < (bx - ax) * (bx - ax) := by
      rcases Int.lt_or_gt_of_ne hx' with q | q
      · exact Int.mul_pos_of_neg_of_neg q q
      · exact Int.mul_pos q q
    omega
theorem sides_pos {ax ay bx bY cx cy : Int} (h : crossZ ax ay bx bY cx cy ≠ 0) : 0 < (sidesZ ax ay bx bY cx cy).1 ∧ 0 < (sidesZ ax ay bx bY cx cy).2.1 ∧ 0 < (sidesZ ax ay bx bY cx cy).2.2 := by
  unfold sidesZ
  refine srt3_all (Q := fun z => 0 < z) (dist_pos fun q => h ?_) (dist_pos fun q => h ?_) (dist_pos fun q => h ?_)
  · obtain ⟨rfl, rfl⟩ := q; unfold crossZ; grind
  · obtain ⟨rfl, rfl⟩ := q; unfold crossZ; grind
  · obtain ⟨rfl, rfl⟩ := q; unfold crossZ; grind
theorem sides_b {ax ay bx bY cx cy : Int} (h : canP ax ay ∧ canP bx bY ∧ canP cx cy) : (-9671406556917033397649408 ≤ (sidesZ ax ay bx bY cx cy).1 ∧ (sidesZ ax ay bx bY cx cy).1 ≤ 9671406556917033397649408) ∧ (-9671406556917033397649408 ≤ (sidesZ ax ay bx bY cx cy).2.1 ∧ (sidesZ ax ay bx bY cx cy).2.1 ≤ 9671406556917033397649408) ∧ -9671406556917033397649408 ≤ (sidesZ ax ay bx bY cx cy).2.2 ∧ (sidesZ ax ay bx bY cx cy).2.2 ≤ 9671406556917033397649408 := by
  obtain ⟨i0, i1, i2⟩ := h
  unfold canP inP at i0 i1 i2
  have one : ∀ a b c d : Int, -1099511627776 ≤ a ∧ a ≤ 1099511627776 → -1099511627776 ≤ b ∧ b ≤ 1099511627776 → -1099511627776 ≤ c ∧ c ≤ 1099511627776 → -1099511627776 ≤ d ∧ d ≤ 1099511627776 → -9671406556917033397649408 ≤ distZ a b c d ∧ distZ a b c d ≤ 9671406556917033397649408 := by
    intro a b c d h1 h2 h3 h4
    have q1 := mulB (x := c - a) (y := c - a) (m := 2199023255552) (n := 2199023255552) (by omega) (by omega)
    have q2 := mulB (x := d - b) (y := d - b) (m := 2199023255552) (n := 2199023255552) (by omega) (by omega)
    unfold distZ; omega
  exact srt3_all (Q := fun z => -9671406556917033397649408 ≤ z ∧ z ≤ 9671406556917033397649408) (one _ _ _ _ i0.1 i0.2 i1.1 i1.2) (one _ _ _ _ i1.1 i1.2 i2.1 i2.2) (one _ _ _ _ i2.1 i2.2 i0.1 i0.2)
theorem cross_b {ax ay bx bY cx cy : Int} (h : canP ax ay ∧ canP bx bY ∧ canP cx cy) : -9671406556917033397649408 ≤ crossZ ax ay bx bY cx cy ∧ crossZ ax ay bx bY cx cy ≤ 9671406556917033397649408 := by
  obtain ⟨i0, i1, i2⟩ := h
  unfold canP inP at i0 i1 i2
  have q1 := mulB (x := bx - ax) (y := cy - ay) (m := 2199023255552) (n := 2199023255552) (by omega) (by omega)
  have q2 := mulB (x := bY - ay) (y := cx - ax) (m := 2199023255552) (n := 2199023255552) (by omega) (by omega)
  unfold crossZ; omega
theorem divOne (q : Rat) : q / 1 = q := by
  rw [Rat.div_def, show (1 : Rat)⁻¹ = 1 from by decide +kernel, Rat.mul_one]
noncomputable def QOf35 : List AV → Option AV
  | [x0, x1, x2] => (ptD x0).bind fun a0 => (ptD x1).bind fun a1 => (ptD x2).bind fun a2 => some (if turnC a0.1 a0.2 a1.1 a1.2 a2.1 a2.2 then .tup [shapeA (sidesZ a0.1 a0.2 a1.1 a1.2 a2.1 a2.2).1 (sidesZ a0.1 a0.2 a1.1 a1.2 a2.1 a2.2).2.1 (sidesZ a0.1 a0.2 a1.1 a1.2 a2.1 a2.2).2.2 (crossZ a0.1 a0.2 a1.1 a1.2 a2.1 a2.2) (angZ (sidesZ a0.1 a0.2 a1.1 a1.2 a2.1 a2.2)), .bool true] else .tup [shapeA 0 0 0 0 0, .bool false])
  | _ => none
noncomputable def E_QOf35 : Env := mkS [(73, QShape)] [] []
theorem run_QOf35 (x0 y0 : Int) (x1 y1 : Int) (x2 y2 : Int) : AEnds E_QOf35 (finW Tryz.prog Tryz.f27.results) 0 [.code (Tryz.f27.body.getD .skip)] (startA Tryz.f27 [.agg [.int .i64 x0, .int .i64 y0], .agg [.int .i64 x1, .int .i64 y1], .agg [.int .i64 x2, .int .i64 y2]] [] []) (if turnC x0 y0 x1 y1 x2 y2 then .tup [shapeA (sidesZ x0 y0 x1 y1 x2 y2).1 (sidesZ x0 y0 x1 y1 x2 y2).2.1 (sidesZ x0 y0 x1 y1 x2 y2).2.2 (crossZ x0 y0 x1 y1 x2 y2) (angZ (sidesZ x0 y0 x1 y1 x2 y2)), .bool true] else .tup [shapeA 0 0 0 0 0, .bool false]) := by
  simp only [Tryz.f27, Option.getD_some, startA]
  by_cases ht : turnC x0 y0 x1 y1 x2 y2
  · rw [if_pos ht]
    simp (maxSteps := 4000000) (disch := (first | with_reducible rfl | assumption | with_reducible exact WB_NB _ _ | (with_reducible refine nb_le ?_; omega) | (with_reducible refine nb16_le ?_; omega) | omega | (simp only [List.length_append, List.length_map, List.length_cons, List.length_nil, List.length_set, List.length_replicate, List.length_take, List.size_toArray]; omega))) [E_QOf35, ht]
  · rw [if_neg ht]
    simp (maxSteps := 4000000) (disch := (first | with_reducible rfl | assumption | with_reducible exact WB_NB _ _ | (with_reducible refine nb_le ?_; omega) | (with_reducible refine nb16_le ?_; omega) | omega | (simp only [List.length_append, List.length_map, List.length_cons, List.length_nil, List.length_set, List.length_replicate, List.length_take, List.size_toArray]; omega))) [E_QOf35, ht]
theorem sQOf35 : GoodS (27, QOf35) := by
  intro xs r h
  simp only at h
  unfold QOf35 at h
  split at h
  · obtain ⟨a0, h0, h⟩ := Option.bind_eq_some_iff.1 h
    obtain ⟨a1, h1, h⟩ := Option.bind_eq_some_iff.1 h
    obtain ⟨a2, h2, h⟩ := Option.bind_eq_some_iff.1 h
    cases h
    (obtain ⟨x0, y0⟩ := a0); (obtain rfl := ptD_out h0)
    (obtain ⟨x1, y1⟩ := a1); (obtain rfl := ptD_out h1)
    (obtain ⟨x2, y2⟩ := a2); (obtain rfl := ptD_out h2)
    exact .inl <| okW_ends (mkS_ok (alls_cons sQShape alls_nil)) mixed Tryz.func27 rfl (by kernel_rfl : Fits Tryz.prog E_QOf35.ref E_QOf35.dep Tryz.f27 = true) (run_QOf35 _ _ _ _ _ _)
  · cases h
attribute [simp] QOf35
noncomputable def Qlong : List AV → Option AV
  | [x0] => (wideD x0).bind fun a0 => some (intA a0)
  | _ => none
noncomputable def E_Qlong : Env := mkS [(96, QOf), (83, QOfQuad)] [] []
theorem run_Qlong (a0 : Int) (b0 : -170141183460469231731687303715884105728 ≤ a0 ∧ a0 < 170141183460469231731687303715884105728) : AEnds E_Qlong (finW Tryz.prog Tryz.f131.results) 0 [.code (Tryz.f131.body.getD .skip)] (startA Tryz.f131 [wideA a0] [] []) (intA a0) := by
  simp only [Tryz.f131, Option.getD_some, startA]
  have w0 := wideD_A a0 b0
  have hz := quadD_U a0 (by omega)
  simp only [wideA]
  simp (maxSteps := 4000000) (disch := (first | with_reducible rfl | assumption | with_reducible exact WB_NB _ _ | (with_reducible refine nb_le ?_; omega) | (with_reducible refine nb16_le ?_; omega) | omega | (simp only [List.length_append, List.length_map, List.length_cons, List.length_nil, List.length_set, List.length_replicate, List.length_take, List.size_toArray]; omega))) [E_Qlong, w0, hz, quadA]
theorem sQlong : GoodS (131, Qlong) := by
  intro xs r h
  simp only at h
  unfold Qlong at h
  split at h
  · obtain ⟨a0, h0, h⟩ := Option.bind_eq_some_iff.1 h
    cases h
    obtain ⟨rfl, b0⟩ := wideD_out h0
    exact .inl <| okW_ends (mkS_ok (alls_cons sQOf (alls_cons sQOfQuad alls_nil))) mixed Tryz.func131 rfl (by kernel_rfl : Fits Tryz.prog E_Qlong.ref E_Qlong.dep Tryz.f131 = true) (run_Qlong _ b0)
  · cases h
attribute [simp] Qlong
noncomputable def Qslim : List AV → Option AV
  | [x0, x1, x2] => (ptD x0).bind fun a0 => (ptD x1).bind fun a1 => (ptD x2).bind fun a2 => some (if turnC a0.1 a0.2 a1.1 a1.2 a2.1 a2.2 then .tup [ratA (slimZ a0.1 a0.2 a1.1 a1.2 a2.1 a2.2), .bool true] else .tup [ratA 0, .bool false])
  | _ => none
noncomputable def E_Qslim : Env := mkS [(73, QShape), (56, ROf), (20, CRadius2), (131, Qlong), (48, WOf), (65, RMake), (132, RDiv)] [] []
theorem run_Qslim (x0 y0 : Int) (x1 y1 : Int) (x2 y2 : Int) : AEnds E_Qslim (finW Tryz.prog Tryz.f82.results) 0 [.code (Tryz.f82.body.getD .skip)] (startA Tryz.f82 [.agg [.int .i64 x0, .int .i64 y0], .agg [.int .i64 x1, .int .i64 y1], .agg [.int .i64 x2, .int .i64 y2]] [] []) (if turnC x0 y0 x1 y1 x2 y2 then .tup [ratA (slimZ x0 y0 x1 y1 x2 y2), .bool true] else .tup [ratA 0, .bool false]) := by
  simp only [Tryz.f82, Option.getD_some, startA]
  by_cases ht : turnC x0 y0 x1 y1 x2 y2
  · rw [if_pos ht]
    have hh : hasC x0 y0 x1 y1 x2 y2 := ⟨ht.1, Int.ne_of_gt ht.2⟩
    have sb := (sides_b ht.1).1
    have sp := (sides_pos (Int.ne_of_gt ht.2)).1
    have i0 := ht.1.1
    have i1 := ht.1.2.1
    have i2 := ht.1.2.2
    unfold canP inP at i0 i1 i2
    haveI : SzI x0 2 := ⟨by omega⟩
    haveI : SzI y0 2 := ⟨by omega⟩
    haveI : SzI x1 2 := ⟨by omega⟩
    haveI : SzI y1 2 := ⟨by omega⟩
    haveI : SzI x2 2 := ⟨by omega⟩
    haveI : SzI y2 2 := ⟨by omega⟩
    haveI zR := szRadQ (ax := x0) (ay := y0) (bx := x1) (bY := y1) (cx := x2) (cy := y2)
    clear i0 i1 i2
    unfold slimZ
    generalize hR : radZ x0 y0 x1 y1 x2 y2 = R at *
    generalize hs0 : (sidesZ x0 y0 x1 y1 x2 y2).1 = s0 at *
    have ws0 := wideD_A s0 (by omega)
    haveI : SzI s0 3 := ⟨by omega⟩
    have hne : ¬ (s0 : Rat) = 0 := by rw [Rat.intCast_eq_zero_iff]; omega
    have hs : ¬ s0 = 0 := by omega
    clear sb sp
    simp (maxSteps := 4000000) (disch := (first | with_reducible rfl | assumption | with_reducible exact WB_NB _ _ | (with_reducible refine nb_le ?_; omega) | (with_reducible refine nb16_le ?_; omega) | omega | (simp only [List.length_append, List.length_map, List.length_cons, List.length_nil, List.length_set, List.length_replicate, List.length_take, List.size_toArray]; omega))) [E_Qslim, ht, hh, hR, hs0, ws0, hne, hs, divOne, mkOne, Rat.mkRat_self, -Rat.mkRat_mul_mkRat]
  · rw [if_neg ht]
    simp (maxSteps := 4000000) (disch := (first | with_reducible rfl | assumption | with_reducible exact WB_NB _ _ | (with_reducible refine nb_le ?_; omega) | (with_reducible refine nb16_le ?_; omega) | omega | (simp only [List.length_append, List.length_map, List.length_cons, List.length_nil, List.length_set, List.length_replicate, List.length_take, List.size_toArray]; omega))) [E_Qslim, ht, ratA_zero]
theorem sQslim : GoodS (82, Qslim) := by
  intro xs r h
  simp only at h
  unfold Qslim at h
  split at h
  · obtain ⟨a0, h0, h⟩ := Option.bind_eq_some_iff.1 h
    obtain ⟨a1, h1, h⟩ := Option.bind_eq_some_iff.1 h
    obtain ⟨a2, h2, h⟩ := Option.bind_eq_some_iff.1 h
    cases h
    (obtain ⟨x0, y0⟩ := a0); (obtain rfl := ptD_out h0)
    (obtain ⟨x1, y1⟩ := a1); (obtain rfl := ptD_out h1)
    (obtain ⟨x2, y2⟩ := a2); (obtain rfl := ptD_out h2)
    exact .inl <| okW_ends (mkS_ok (alls_cons sQShape (alls_cons sROf (alls_cons sCRadius2 (alls_cons sQlong (alls_cons sWOf (alls_cons sRMake (alls_cons sRDiv alls_nil)))))))) mixed Tryz.func82 rfl (by kernel_rfl : Fits Tryz.prog E_Qslim.ref E_Qslim.dep Tryz.f82 = true) (run_Qslim _ _ _ _ _ _)
  · cases h
attribute [simp] Qslim
noncomputable def QSlim : List AV → Option AV
  | [x0, x1, x2] => (ptD x0).bind fun a0 => (ptD x1).bind fun a1 => (ptD x2).bind fun a2 => some (if turnC a0.1 a0.2 a1.1 a1.2 a2.1 a2.2 then .tup [ratA (slimZ a0.1 a0.2 a1.1 a1.2 a2.1 a2.2), .bool true] else .tup [ratA 0, .bool false])
  | _ => none
noncomputable def E_QSlim : Env := mkS [(82, Qslim)] [] []
theorem run_QSlim (x0 y0 : Int) (x1 y1 : Int) (x2 y2 : Int) : AEnds E_QSlim (finW Tryz.prog Tryz.f37.results) 0 [.code (Tryz.f37.body.getD .skip)] (startA Tryz.f37 [.agg [.int .i64 x0, .int .i64 y0], .agg [.int .i64 x1, .int .i64 y1], .agg [.int .i64 x2, .int .i64 y2]] [] []) (if turnC x0 y0 x1 y1 x2 y2 then .tup [ratA (slimZ x0 y0 x1 y1 x2 y2), .bool true] else .tup [ratA 0, .bool false]) := by
  simp only [Tryz.f37, Option.getD_some, startA]
  by_cases ht : turnC x0 y0 x1 y1 x2 y2
  · rw [if_pos ht]
    simp (maxSteps := 4000000) (disch := (first | with_reducible rfl | assumption | with_reducible exact WB_NB _ _ | (with_reducible refine nb_le ?_; omega) | (with_reducible refine nb16_le ?_; omega) | omega | (simp only [List.length_append, List.length_map, List.length_cons, List.length_nil, List.length_set, List.length_replicate, List.length_take, List.size_toArray]; omega))) [E_QSlim, ht]
  · rw [if_neg ht]
    simp (maxSteps := 4000000) (disch := (first | with_reducible rfl | assumption | with_reducible exact WB_NB _ _ | (with_reducible refine nb_le ?_; omega) | (with_reducible refine nb16_le ?_; omega) | omega | (simp only [List.length_append, List.length_map, List.length_cons, List.length_nil, List.length_set, List.length_replicate, List.length_take, List.size_toArray]; omega))) [E_QSlim, ht]
theorem sQSlim : GoodS (37, QSlim) := by
  intro xs r h
  simp only at h
  unfold QSlim at h
  split at h
  · obtain ⟨a0, h0, h⟩ := Option.bind_eq_some_iff.1 h
    obtain ⟨a1, h1, h⟩ := Option.bind_eq_some_iff.1 h
    obtain ⟨a2, h2, h⟩ := Option.bind_eq_some_iff.1 h
    cases h
    (obtain ⟨x0, y0⟩ := a0); (obtain rfl := ptD_out h0)
    (obtain ⟨x1, y1⟩ := a1); (obtain rfl := ptD_out h1)
    (obtain ⟨x2, y2⟩ := a2); (obtain rfl := ptD_out h2)
    exact .inl <| okW_ends (mkS_ok (alls_cons sQslim alls_nil)) mixed Tryz.func37 rfl (by kernel_rfl : Fits Tryz.prog E_QSlim.ref E_QSlim.dep Tryz.f37 = true) (run_QSlim _ _ _ _ _ _)
  · cases h
attribute [simp] QSlim
end Go.Proofs.YtofklpmlgfbmlaaGreat.ZRat
