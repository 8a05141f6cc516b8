/- Whether any spot lies in any polygon that turns left is as the document says. -/
import Derived.Test.YtofklpmlgfbmlaaC10
import Derived.Test.YtofklpmlgfbmlaaC11
import Derived.Test.YtofklpmlgfbmlaaC12
import Derived.Test.YtofklpmlgfbmlaaC8
set_option linter.unusedVariables false
set_option linter.unusedSimpArgs false
namespace Go.Proofs.Ytofklpmlgfbmlaa.ZRat
open Go.RowKit Go.Proofs.Ytofklpmlgfbmlaa.Wd
open Go Go.Proofs.Ytofklpmlgfbmlaa.Ab Go.Proofs Go.Proofs.Ytofklpmlgfbmlaa.Num Go.Proofs.Ytofklpmlgfbmlaa.ZRatP
set_option linter.unusedSimpArgs false
set_option linter.unusedVariables false
set_option maxHeartbeats 8000000
set_option maxRecDepth 100000
noncomputable def E_PolyInside : Env := mkS [(17, Pfew), (26, Pshort), (27, PInside), (21, GAll), (29, GOf), (28, GInside), (22, L20lives)] [] []
theorem run_PolyInside (r0 : List RS) (w0 : ∀ p ∈ r0, wbS p) (s1 : Bool) (l1 m1 : List Int) (t1 : Bool) (p1 q1 : List Int) (wl1 : WB 4294967296 l1) (wm1 : WB 4294967296 m1) (wp1 : WB 4294967296 p1) (wq1 : WB 4294967296 q1) : AEnds E_PolyInside (finW Try.prog Try.f6.results) 0 [.code (Try.f6.body.getD .skip)] (startA Try.f6 [rowS r0, .agg [.bool s1, rowI .u32 l1, rowI .u32 m1, .bool t1, rowI .u32 p1, rowI .u32 q1]] [] []) (.bool true) := by
  obtain ⟨okR, lnR⟩ := few_ok w0
  have dU := rowU r0
  unfold rowS
  obtain ⟨R, hR⟩ : ∃ R, fewS r0 = R := ⟨_, rfl⟩
  rw [hR] at okR lnR
  have lnR8 : R.length ≤ 8 := by omega
  have d9 := row9 okR lnR8 (by omega)
  have dG := rowG okR lnR8
  haveI zA := areaW okR lnR8
  obtain ⟨zX, zY⟩ := centW okR lnR8
  have v1 := WB_cut wl1 2
  have v2 := WB_cut wm1 2
  have v3 := WB_cut wp1 2
  have v4 := WB_cut wq1 2
  have u1 := cut_le 2 l1
  have u2 := cut_le 2 m1
  have u3 := cut_le 2 p1
  have u4 := cut_le 2 q1
  simp only [Try.f6, Option.getD_some, startA]
  generalize hl : cut 2 l1 = l' at *
  generalize hm : cut 2 m1 = m' at *
  generalize hp : cut 2 p1 = p' at *
  generalize hq : cut 2 q1 = q' at *
  haveI := SzI.val (neg := s1) v1 u1
  haveI := SzN.val v2 u2
  haveI := SzI.val (neg := t1) v3 u3
  haveI := SzN.val v4 u4
  haveI y1 : SzQ (mkRat (IVal s1 l') (VB 4294967296 m')) 5 := (inferInstance : SzQ (mkRat (IVal s1 l') (VB 4294967296 m')) _)
  haveI y2 : SzQ (mkRat (IVal t1 p') (VB 4294967296 q')) 5 := (inferInstance : SzQ (mkRat (IVal t1 p') (VB 4294967296 q')) _)
  generalize hx : mkRat (IVal s1 l') (VB 4294967296 m') = x at *
  generalize hy : mkRat (IVal t1 p') (VB 4294967296 q') = y at *
  generalize hI : insideB (R.map valS) (x, y) = B at *
  simp (maxSteps := 4000000) (disch := (first | with_reducible rfl | assumption | with_reducible exact WB_NB _ _ | (with_reducible refine nb_le ?_; omega) | (with_reducible refine nb16_le ?_; omega) | omega | (simp only [List.length_append, List.length_map, List.length_cons, List.length_nil, List.length_set, List.length_replicate, List.length_take, List.size_toArray]; omega))) [E_PolyInside, hl, hm, hp, hq, hx, hy, hI, dU, hR, d9, dG, cellsR, den_ne, den_pos', Rat.den_pos, rden, mkSelf, Rat.mkRat_self, rowS, rowR, -Int.sign_mul, -Int.sign_neg, -Int.natAbs_neg]
theorem law_PolyInside (r0 : List RS) (w0 : ∀ p ∈ r0, wbS p) (s1 : Bool) (l1 m1 : List Int) (t1 : Bool) (p1 q1 : List Int) (wl1 : WB 4294967296 l1) (wm1 : WB 4294967296 m1) (wp1 : WB 4294967296 p1) (wq1 : WB 4294967296 q1) : OkV Try.prog 6 [rowS r0, .agg [.bool s1, rowI .u32 l1, rowI .u32 m1, .bool t1, rowI .u32 p1, rowI .u32 q1]] (.bool true) :=
  okW_ends (mkS_ok (alls_cons sPfew (alls_cons sPshort (alls_cons sPInside (alls_cons sGAll (alls_cons sGOf (alls_cons sGInside (alls_cons sL20lives alls_nil)))))))) mixed Try.func6 rfl (by kernel_rfl : Fits Try.prog E_PolyInside.ref E_PolyInside.dep Try.f6 = true) (run_PolyInside r0 w0 s1 l1 m1 t1 p1 q1 wl1 wm1 wp1 wq1)
end Go.Proofs.Ytofklpmlgfbmlaa.ZRat
