/- Walks by the abstract run: products of 128 bits. -/
import Derived.Test.YtofklpmlgfbmlaaGreatC10
import Derived.Test.YtofklpmlgfbmlaaGreatC23
import Derived.Test.YtofklpmlgfbmlaaGreatC8
set_option linter.unusedVariables false
set_option linter.unusedSimpArgs false
namespace Go.Proofs.YtofklpmlgfbmlaaGreat.ZRat
open Go.RowKit Go.Proofs.YtofklpmlgfbmlaaGreat.Wd
open Go Go.Proofs.YtofklpmlgfbmlaaGreat.Ab Go.Proofs Go.Proofs.YtofklpmlgfbmlaaGreat.Num Go.Proofs.YtofklpmlgfbmlaaGreat.ZRatP
set_option linter.unusedSimpArgs false
set_option linter.unusedVariables false
set_option maxHeartbeats 8000000
set_option maxRecDepth 100000
noncomputable def QApart : List AV → Option AV
  | [x0] => (wideD x0).bind fun a0 => if -170141183460469231731687303715884105728 < a0 then some (.tup [.agg [.int .u64 ((a0.natAbs : Int) % 18446744073709551616), .int .u64 ((a0.natAbs : Int) / 18446744073709551616)], .bool (decide (a0 < 0))]) else none
  | _ => none
noncomputable def E_QApart : Env := mkS [(167, WdNeg)] [] []
theorem run_QApart (a0 : Int) (b0 : -170141183460469231731687303715884105728 ≤ a0 ∧ a0 < 170141183460469231731687303715884105728) (hc : -170141183460469231731687303715884105728 < a0) : AEnds E_QApart (finW Tryz.prog Tryz.f135.results) 0 [.code (Tryz.f135.body.getD .skip)] (startA Tryz.f135 [wideA a0] [] []) (.tup [.agg [.int .u64 ((a0.natAbs : Int) % 18446744073709551616), .int .u64 ((a0.natAbs : Int) / 18446744073709551616)], .bool (decide (a0 < 0))]) := by
  simp only [Tryz.f135, Option.getD_some, startA]
  have hu : ∀ x : Int, IntKind.u64.wrap x = x % 18446744073709551616 := fun x => IntKind.wrap_u64 x
  have w0 := wideD_A a0 b0
  by_cases h0 : a0 < 0
  · have h1 : a0 / 18446744073709551616 < 0 := by omega
    have h2 : -170141183460469231731687303715884105728 ≤ -a0 := by omega
    have h3 : -a0 < 170141183460469231731687303715884105728 := by omega
    have e1 : (a0.natAbs : Int) = -a0 := by omega
    have e2 : -a0 / 18446744073709551616 % 18446744073709551616 = -a0 / 18446744073709551616 := by omega
    simp only [wideA, e1]
    simp (maxSteps := 4000000) (disch := (first | with_reducible rfl | assumption | with_reducible exact WB_NB _ _ | (with_reducible refine nb_le ?_; omega) | (with_reducible refine nb16_le ?_; omega) | omega | (simp only [List.length_append, List.length_map, List.length_cons, List.length_nil, List.length_set, List.length_replicate, List.length_take, List.size_toArray]; omega))) [E_QApart, hu, w0, wideA, h0, h1, h2, h3, e1, e2]
  · have h1 : ¬ a0 / 18446744073709551616 < 0 := by omega
    have e1 : (a0.natAbs : Int) = a0 := by omega
    have e2 : a0 / 18446744073709551616 % 18446744073709551616 = a0 / 18446744073709551616 := by omega
    simp only [wideA, e1]
    simp (maxSteps := 4000000) (disch := (first | with_reducible rfl | assumption | with_reducible exact WB_NB _ _ | (with_reducible refine nb_le ?_; omega) | (with_reducible refine nb16_le ?_; omega) | omega | (simp only [List.length_append, List.length_map, List.length_cons, List.length_nil, List.length_set, List.length_replicate, List.length_take, List.size_toArray]; omega))) [E_QApart, hu, w0, wideA, h0, h1, e1, e2]
theorem sQApart : GoodS (135, QApart) := by
  intro xs r h
  simp only at h
  unfold QApart at h
  split at h
  · obtain ⟨a0, h0, h⟩ := Option.bind_eq_some_iff.1 h
    split at h
    · rename_i hc
      cases h
      obtain ⟨rfl, b0⟩ := wideD_out h0
      exact .inl <| okW_ends (mkS_ok (alls_cons sWdNeg alls_nil)) mixed Tryz.func135 rfl (by kernel_rfl : Fits Tryz.prog E_QApart.ref E_QApart.dep Tryz.f135 = true) (run_QApart _ b0 hc)
    · cases h
  · cases h
attribute [simp] QApart
end Go.Proofs.YtofklpmlgfbmlaaGreat.ZRat
namespace Go.Proofs.YtofklpmlgfbmlaaGreat.ZRat
open Go.RowKit Go.Proofs.YtofklpmlgfbmlaaGreat.Wd
open Go Go.Proofs.YtofklpmlgfbmlaaGreat.Ab Go.Proofs Go.Proofs.YtofklpmlgfbmlaaGreat.Num Go.Proofs.YtofklpmlgfbmlaaGreat.ZRatP
set_option linter.unusedSimpArgs false
set_option linter.unusedVariables false
set_option maxHeartbeats 8000000
set_option maxRecDepth 100000
theorem wr0 : wrap64 0 = 0 := by decide +kernel
attribute [simp] wr0
theorem mul_words {x0 x1 y0 y1 P00 P01 P10 P11 : Int} (hx0 : 0 ≤ x0 ∧ x0 < 18446744073709551616) (hx1 : 0 ≤ x1 ∧ x1 < 18446744073709551616) (hy0 : 0 ≤ y0 ∧ y0 < 18446744073709551616) (hy1 : 0 ≤ y1 ∧ y1 < 18446744073709551616)
    (h00 : x0 * y0 = P00) (h01 : x0 * y1 = P01) (h10 : x1 * y0 = P10) (h11 : x1 * y1 = P11) : (x0 + x1 * 18446744073709551616) * (y0 + y1 * 18446744073709551616) = P00 + (P01 + P10) * 18446744073709551616 + P11 * 340282366920938463463374607431768211456 := by
  rw [← h00, ← h01, ← h10, ← h11]; grind
theorem qm_arith {P00 P01 P10 P11 l00 u00 l01 u01 l10 u10 l11 u11 o1 c2 t1 o1' d1 t2 o2 d2 o2' d3 t3 : Int} (p00 : 0 ≤ P00 ∧ P00 ≤ 340282366920938463426481119284349108225) (p01 : 0 ≤ P01 ∧ P01 ≤ 340282366920938463426481119284349108225) (p10 : 0 ≤ P10 ∧ P10 ≤ 340282366920938463426481119284349108225) (p11 : 0 ≤ P11 ∧ P11 ≤ 340282366920938463426481119284349108225)
    (e00 : P00 % 18446744073709551616 = l00) (f00 : P00 / 18446744073709551616 = u00) (e01 : P01 % 18446744073709551616 = l01) (f01 : P01 / 18446744073709551616 = u01) (e10 : P10 % 18446744073709551616 = l10) (f10 : P10 / 18446744073709551616 = u10) (e11 : P11 % 18446744073709551616 = l11) (f11 : P11 / 18446744073709551616 = u11)
    (g1 : (l01 + u00) % 18446744073709551616 = o1) (g2 : (l01 + u00) / 18446744073709551616 = c2) (g3 : (u01 + c2) % 18446744073709551616 = t1) (g4 : (o1 + l10) % 18446744073709551616 = o1') (g5 : (o1 + l10) / 18446744073709551616 = d1) (g6 : (u10 + d1) % 18446744073709551616 = t2) (g7 : (t1 + l11) % 18446744073709551616 = o2) (g8 : (t1 + l11) / 18446744073709551616 = d2) (g9 : (o2 + t2) % 18446744073709551616 = o2') (g10 : (o2 + t2) / 18446744073709551616 = d3) (g11 : (u11 + d2 + d3) % 18446744073709551616 = t3)
    (hpb : P00 + (P01 + P10) * 18446744073709551616 + P11 * 340282366920938463463374607431768211456 < 115792089237316195423570985008687907853269984665640564039457584007913129639936) :
    (l00 % 18446744073709551616 = l00 ∧ l00 / 18446744073709551616 = 0 ∧ u00 % 18446744073709551616 = u00 ∧ l01 % 18446744073709551616 = l01 ∧ l01 / 18446744073709551616 = 0 ∧ t1 % 18446744073709551616 = t1 ∧ o1' % 18446744073709551616 = o1' ∧ o1' / 18446744073709551616 = 0 ∧ t3 % 18446744073709551616 = t3 ∧ t2 % 18446744073709551616 = t2) ∧
    (0 ≤ l00 ∧ 0 ≤ u00 ∧ 0 ≤ l01 ∧ 0 ≤ l10 ∧ 0 ≤ l11 ∧ 0 ≤ o1 ∧ 0 ≤ o1' ∧ 0 ≤ t1 ∧ 0 ≤ t2 ∧ 0 ≤ o2) ∧ (0 ≤ l00 ∧ l00 < 18446744073709551616) ∧ (0 ≤ o1' ∧ o1' < 18446744073709551616) ∧ (0 ≤ o2' ∧ o2' < 18446744073709551616) ∧ (0 ≤ t3 ∧ t3 < 18446744073709551616) ∧ P00 + (P01 + P10) * 18446744073709551616 + P11 * 340282366920938463463374607431768211456 = l00 + o1' * 18446744073709551616 + o2' * 340282366920938463463374607431768211456 + t3 * 6277101735386680763835789423207666416102355444464034512896 := by
  have q : ∀ x y z : Int, x % 18446744073709551616 = y → x / 18446744073709551616 = z → x = y + z * 18446744073709551616 ∧ 0 ≤ y ∧ y < 18446744073709551616 := fun x y z h k => by omega
  have m : ∀ x : Int, 0 ≤ x → x < 18446744073709551616 → x % 18446744073709551616 = x ∧ x / 18446744073709551616 = 0 := fun x h k => by omega
  obtain ⟨a1, a2, a3⟩ := q _ _ _ e00 f00
  obtain ⟨b1, b2, b3⟩ := q _ _ _ e01 f01
  obtain ⟨c1, c3, c4⟩ := q _ _ _ e10 f10
  obtain ⟨d1', d4, d5⟩ := q _ _ _ e11 f11
  obtain ⟨i1, i2, i3⟩ := q _ _ _ g1 g2
  obtain ⟨j1, j2, j3⟩ := q _ _ _ g4 g5
  obtain ⟨k1, k2, k3⟩ := q _ _ _ g7 g8
  obtain ⟨v1, v2, v3⟩ := q _ _ _ g9 g10
  clear e00 f00 e01 f01 e10 f10 e11 f11 g1 g2 g4 g5 g7 g8 g9 g10
  have t1e : u01 + c2 = t1 := by rw [← g3]; exact (m _ (by omega) (by omega)).1.symm
  have t2e : u10 + d1 = t2 := by rw [← g6]; exact (m _ (by omega) (by omega)).1.symm
  have hk : P00 + (P01 + P10) * 18446744073709551616 + P11 * 340282366920938463463374607431768211456 = l00 + o1' * 18446744073709551616 + o2' * 340282366920938463463374607431768211456 + (u11 + d2 + d3) * 6277101735386680763835789423207666416102355444464034512896 := by
    clear g3 g6 g11 hpb
    omega
  rw [hk] at hpb
  have hu : 0 ≤ u00 ∧ u00 < 18446744073709551616 := by omega
  have ht : 0 ≤ t1 ∧ t1 < 18446744073709551616 := by omega
  have ht2 : 0 ≤ t2 := by omega
  have ht3 : t2 % 18446744073709551616 = t2 := by rw [← g6]; exact Int.emod_emod_of_dvd _ (Int.dvd_refl _)
  have s3 : 0 ≤ u11 + d2 + d3 := by clear hk hpb g3 g6 g11; omega
  have s4 : u11 + d2 + d3 < 18446744073709551616 := by clear hk g3 g6 g11 a1 b1 c1 d1' i1 j1 k1 v1; omega
  have t3e : u11 + d2 + d3 = t3 := by rw [← g11]; exact (m _ s3 s4).1.symm
  rw [t3e] at hk s3 s4
  exact ⟨⟨(m _ a2 a3).1, (m _ a2 a3).2, (m _ hu.1 hu.2).1, (m _ b2 b3).1, (m _ b2 b3).2, (m _ ht.1 ht.2).1, (m _ j2 j3).1, (m _ j2 j3).2, (m _ s3 s4).1, ht3⟩, ⟨a2, hu.1, b2, c3, d4, i2, j2, ht.1, ht2, k2⟩, ⟨a2, a3⟩, ⟨j2, j3⟩, ⟨v2, v3⟩, ⟨s3, s4⟩, hk⟩
theorem prod_b {x y P : Int} (hx : 0 ≤ x ∧ x < 18446744073709551616) (hy : 0 ≤ y ∧ y < 18446744073709551616) (h : x * y = P) : 0 ≤ P ∧ P ≤ 340282366920938463426481119284349108225 := by
  have := mulB (x := x) (y := y) (m := 18446744073709551615) (n := 18446744073709551615) (by omega) (by omega)
  have h0 : 0 ≤ x * y := Int.mul_nonneg hx.1 hy.1
  rw [h] at this h0
  exact ⟨h0, this.2⟩
noncomputable def QMul : List AV → Option AV
  | [x0, x1] => (wideD x0).bind fun a0 => (wideD x1).bind fun a1 => if (-1267650600228229401496703205376 ≤ a0 ∧ a0 ≤ 1267650600228229401496703205376) ∧ (-1267650600228229401496703205376 ≤ a1 ∧ a1 ≤ 1267650600228229401496703205376) then some (quadA (a0 * a1)) else none
  | _ => none
noncomputable def E_QMul : Env := mkS [(135, QApart), (97, XMul64), (136, XAdd64), (137, QSub)] [(5, [4, 5, 6, 7, 8, 9, 27]), (9, [4, 5, 6, 7, 8, 9, 10, 11, 27, 30])] []
theorem run_QMul (a0 : Int) (b0 : -170141183460469231731687303715884105728 ≤ a0 ∧ a0 < 170141183460469231731687303715884105728) (a1 : Int) (b1 : -170141183460469231731687303715884105728 ≤ a1 ∧ a1 < 170141183460469231731687303715884105728) (hc : (-1267650600228229401496703205376 ≤ a0 ∧ a0 ≤ 1267650600228229401496703205376) ∧ (-1267650600228229401496703205376 ≤ a1 ∧ a1 ≤ 1267650600228229401496703205376)) : AEnds E_QMul (finW Tryz.prog Tryz.f84.results) 0 [.code (Tryz.f84.body.getD .skip)] (startA Tryz.f84 [wideA a0, wideA a1] [] []) (quadA (a0 * a1)) := by
  simp only [Tryz.f84, Option.getD_some, startA]
  have hz0 : (a0.natAbs : Int) < 1267650600228229401496703205377 := by omega
  have hz1 : (a1.natAbs : Int) < 1267650600228229401496703205377 := by omega
  have w0 := wideD_A a0 b0
  have w1 := wideD_A a1 b1
  have k0 : -170141183460469231731687303715884105728 < a0 := by omega
  have k1 : -170141183460469231731687303715884105728 < a1 := by omega
  have hab : ((a0.natAbs : Int)) * ((a1.natAbs : Int)) = if (decide (a0 < 0) = decide (a1 < 0)) then a0 * a1 else -(a0 * a1) := by
    by_cases h0 : a0 < 0
    · by_cases h1 : a1 < 0
      · rw [show (a0.natAbs : Int) = -a0 by omega, show (a1.natAbs : Int) = -a1 by omega, if_pos (by simp [h0, h1])]; grind
      · rw [show (a0.natAbs : Int) = -a0 by omega, show (a1.natAbs : Int) = a1 by omega, if_neg (by simp [h0, h1])]; grind
    · by_cases h1 : a1 < 0
      · rw [show (a0.natAbs : Int) = a0 by omega, show (a1.natAbs : Int) = -a1 by omega, if_neg (by simp [h0, h1])]; grind
      · rw [show (a0.natAbs : Int) = a0 by omega, show (a1.natAbs : Int) = a1 by omega, if_pos (by simp [h0, h1])]
  have hu : ∀ x : Int, IntKind.u64.wrap x = x % 18446744073709551616 := fun x => IntKind.wrap_u64 x
  generalize hx0 : (a0.natAbs : Int) % 18446744073709551616 = x0
  generalize hx1 : (a0.natAbs : Int) / 18446744073709551616 = x1
  generalize hy0 : (a1.natAbs : Int) % 18446744073709551616 = y0
  generalize hy1 : (a1.natAbs : Int) / 18446744073709551616 = y1
  have rx0 : 0 ≤ x0 ∧ x0 < 18446744073709551616 := by omega
  have rx1 : 0 ≤ x1 ∧ x1 < 18446744073709551616 := by omega
  have ry0 : 0 ≤ y0 ∧ y0 < 18446744073709551616 := by omega
  have ry1 : 0 ≤ y1 ∧ y1 < 18446744073709551616 := by omega
  have hxa : (a0.natAbs : Int) = x0 + x1 * 18446744073709551616 := by omega
  have hya : (a1.natAbs : Int) = y0 + y1 * 18446744073709551616 := by omega
  generalize h00 : x0 * y0 = P00
  generalize h01 : x0 * y1 = P01
  generalize h10 : x1 * y0 = P10
  generalize h11 : x1 * y1 = P11
  have hm := mul_words rx0 rx1 ry0 ry1 h00 h01 h10 h11
  rw [← hxa, ← hya] at hm
  obtain ⟨p00, p00'⟩ := prod_b rx0 ry0 h00
  obtain ⟨p01, p01'⟩ := prod_b rx0 ry1 h01
  obtain ⟨p10, p10'⟩ := prod_b rx1 ry0 h10
  obtain ⟨p11, p11'⟩ := prod_b rx1 ry1 h11
  generalize e00 : P00 % 18446744073709551616 = l00
  generalize f00 : P00 / 18446744073709551616 = u00
  generalize e01 : P01 % 18446744073709551616 = l01
  generalize f01 : P01 / 18446744073709551616 = u01
  generalize e10 : P10 % 18446744073709551616 = l10
  generalize f10 : P10 / 18446744073709551616 = u10
  generalize e11 : P11 % 18446744073709551616 = l11
  generalize f11 : P11 / 18446744073709551616 = u11
  generalize g1 : (l01 + u00) % 18446744073709551616 = o1
  generalize g2 : (l01 + u00) / 18446744073709551616 = c2
  generalize g3 : (u01 + c2) % 18446744073709551616 = t1
  generalize g4 : (o1 + l10) % 18446744073709551616 = o1'
  generalize g5 : (o1 + l10) / 18446744073709551616 = d1
  generalize g6 : (u10 + d1) % 18446744073709551616 = t2
  generalize g7 : (t1 + l11) % 18446744073709551616 = o2
  generalize g8 : (t1 + l11) / 18446744073709551616 = d2
  generalize g9 : (o2 + t2) % 18446744073709551616 = o2'
  generalize g10 : (o2 + t2) / 18446744073709551616 = d3
  generalize g11 : (u11 + d2 + d3) % 18446744073709551616 = t3
  have hpb : ((a0.natAbs : Int)) * ((a1.natAbs : Int)) < 115792089237316195423570985008687907853269984665640564039457584007913129639936 := by
    have := mulB (x := (a0.natAbs : Int)) (y := (a1.natAbs : Int)) (m := 1267650600228229401496703205377) (n := 1267650600228229401496703205377) (by omega) (by omega)
    clear e00 e01 e10 e11 f00 f01 f10 f11 g1 g2 g3 g4 g5 g6 g7 g8 g9 g10 g11
    omega
  obtain ⟨⟨z1, z2, z3, z4, z5, z6, z7, z8, z9, z10⟩, ⟨n1, n2, n3, n4, n5, n6, n7, n8, n9, n10⟩, r1, r2, r3, r4, key⟩ := qm_arith ⟨p00, p00'⟩ ⟨p01, p01'⟩ ⟨p10, p10'⟩ ⟨p11, p11'⟩ e00 f00 e01 f01 e10 f10 e11 f11 g1 g2 g3 g4 g5 g6 g7 g8 g9 g10 g11 (hm ▸ hpb)
  rw [← hm] at key
  have F := Aside0.mk (And.intro hx0 (And.intro hx1 (And.intro hy0 (And.intro hy1 (And.intro e00 (And.intro f00 (And.intro e01 (And.intro f01 (And.intro e10 (And.intro f10 (And.intro e11 (And.intro f11 (And.intro g1 (And.intro g2 (And.intro g3 (And.intro g4 (And.intro g5 (And.intro g6 (And.intro g7 (And.intro g8 (And.intro g9 (And.intro g10 (And.intro g11 (And.intro z1 (And.intro z2 (And.intro z3 (And.intro z4 (And.intro z5 (And.intro z6 (And.intro z7 (And.intro z8 (And.intro z9 z10))))))))))))))))))))))))))))))))
  clear e00 e01 e10 e11 f00 f01 f10 f11 g1 g2 g3 g4 g5 g6 g7 g8 g9 g10 g11 z1 z2 z3 z4 z5 z6 z7 z8 z9 z10 hxa hya hx0 hx1 hy0 hy1 p00 p01 p10 p11 p00' p01' p10' p11' hpb
  rw [hab] at key
  have hq : quadD (.agg [.int .u64 l00, .int .u64 o1', .int .u64 o2', .int .u64 t3]) = some (if (decide (a0 < 0) = decide (a1 < 0)) then a0 * a1 else -(a0 * a1)) := by
    have hb : -57896044618658097711785492504343953926634992332820282019728792003956564819968 ≤ (if (decide (a0 < 0) = decide (a1 < 0)) then a0 * a1 else -(a0 * a1)) ∧ (if (decide (a0 < 0) = decide (a1 < 0)) then a0 * a1 else -(a0 * a1)) < 57896044618658097711785492504343953926634992332820282019728792003956564819968 := by
      have := mulB (x := a0) (y := a1) (m := 1267650600228229401496703205377) (n := 1267650600228229401496703205377) (by omega) (by omega)
      split <;> omega
    rw [← quad_of (t := 0) (z := if (decide (a0 < 0) = decide (a1 < 0)) then a0 * a1 else -(a0 * a1)) (p := l00) (q := o1') (r := o2') (s := t3) r1 r2 r3 r4 (by rw [key]; simp)]
    exact quadD_A _ hb
  have hA : quadA (if (decide (a0 < 0) = decide (a1 < 0)) then a0 * a1 else -(a0 * a1)) = .agg [.int .u64 l00, .int .u64 o1', .int .u64 o2', .int .u64 t3] := quad_of (t := 0) r1 r2 r3 r4 (by rw [key]; simp)
  clear key hab hm
  simp only [wideA]
  simp (maxSteps := 4000000) (disch := (first | with_reducible rfl | assumption | with_reducible exact WB_NB _ _ | (with_reducible refine nb_le ?_; omega) | (with_reducible refine nb16_le ?_; omega) | omega | (simp only [List.length_append, List.length_map, List.length_cons, List.length_nil, List.length_set, List.length_replicate, List.length_take, List.size_toArray]; omega))) [E_QMul, hu, w0, w1, k0, k1, F.out, rx0.1, rx0.2, rx1.1, rx1.2, ry0.1, ry0.2, ry1.1, ry1.2, h00, h01, h10, h11, n1, n2, n3, n4, n5, n6, n7, n8, n9, n10]
  refine .loop ?_
  simp only [E_QMul, firstR, mkS_keep, keepT, List.find?, Nat.reduceBEq, Option.map_some, Option.getD_some]
  simp (maxSteps := 4000000) (disch := (first | with_reducible rfl | assumption | with_reducible exact WB_NB _ _ | (with_reducible refine nb_le ?_; omega) | (with_reducible refine nb16_le ?_; omega) | omega | (simp only [List.length_append, List.length_map, List.length_cons, List.length_nil, List.length_set, List.length_replicate, List.length_take, List.size_toArray]; omega))) [E_QMul, hu, w0, w1, k0, k1, F.out, rx0.1, rx0.2, rx1.1, rx1.2, ry0.1, ry0.2, ry1.1, ry1.2, h00, h01, h10, h11, n1, n2, n3, n4, n5, n6, n7, n8, n9, n10]
  refine .loop ?_
  simp only [E_QMul, firstR, mkS_keep, keepT, List.find?, Nat.reduceBEq, Option.map_some, Option.getD_some]
  as_aux_lemma =>
    simp (maxSteps := 4000000) (disch := (first | with_reducible rfl | assumption | with_reducible exact WB_NB _ _ | (with_reducible refine nb_le ?_; omega) | (with_reducible refine nb16_le ?_; omega) | omega | (simp only [List.length_append, List.length_map, List.length_cons, List.length_nil, List.length_set, List.length_replicate, List.length_take, List.size_toArray]; omega))) [E_QMul, hu, w0, w1, k0, k1, F.out, rx0.1, rx0.2, rx1.1, rx1.2, ry0.1, ry0.2, ry1.1, ry1.2, h00, h01, h10, h11, n1, n2, n3, n4, n5, n6, n7, n8, n9, n10]
    refine .again ?_
    simp only [E_QMul, firstR, mkS_keep, keepT, List.find?, Nat.reduceBEq, Option.map_some, Option.getD_some]
    simp (maxSteps := 4000000) (disch := (first | with_reducible rfl | assumption | with_reducible exact WB_NB _ _ | (with_reducible refine nb_le ?_; omega) | (with_reducible refine nb16_le ?_; omega) | omega | (simp only [List.length_append, List.length_map, List.length_cons, List.length_nil, List.length_set, List.length_replicate, List.length_take, List.size_toArray]; omega))) [E_QMul, hu, w0, w1, k0, k1, F.out, rx0.1, rx0.2, rx1.1, rx1.2, ry0.1, ry0.2, ry1.1, ry1.2, h00, h01, h10, h11, n1, n2, n3, n4, n5, n6, n7, n8, n9, n10]
    refine .again ?_
    simp only [E_QMul, firstR, mkS_keep, keepT, List.find?, Nat.reduceBEq, Option.map_some, Option.getD_some]
    as_aux_lemma =>
      simp (maxSteps := 4000000) (disch := (first | with_reducible rfl | assumption | with_reducible exact WB_NB _ _ | (with_reducible refine nb_le ?_; omega) | (with_reducible refine nb16_le ?_; omega) | omega | (simp only [List.length_append, List.length_map, List.length_cons, List.length_nil, List.length_set, List.length_replicate, List.length_take, List.size_toArray]; omega))) [E_QMul, hu, w0, w1, k0, k1, F.out, rx0.1, rx0.2, rx1.1, rx1.2, ry0.1, ry0.2, ry1.1, ry1.2, h00, h01, h10, h11, n1, n2, n3, n4, n5, n6, n7, n8, n9, n10]
      refine .again ?_
      simp only [E_QMul, firstR, mkS_keep, keepT, List.find?, Nat.reduceBEq, Option.map_some, Option.getD_some]
      simp (maxSteps := 4000000) (disch := (first | with_reducible rfl | assumption | with_reducible exact WB_NB _ _ | (with_reducible refine nb_le ?_; omega) | (with_reducible refine nb16_le ?_; omega) | omega | (simp only [List.length_append, List.length_map, List.length_cons, List.length_nil, List.length_set, List.length_replicate, List.length_take, List.size_toArray]; omega))) [E_QMul, hu, w0, w1, k0, k1, F.out, rx0.1, rx0.2, rx1.1, rx1.2, ry0.1, ry0.2, ry1.1, ry1.2, h00, h01, h10, h11, n1, n2, n3, n4, n5, n6, n7, n8, n9, n10]
      refine .loop ?_
      simp only [E_QMul, firstR, mkS_keep, keepT, List.find?, Nat.reduceBEq, Option.map_some, Option.getD_some]
      as_aux_lemma =>
        simp (maxSteps := 4000000) (disch := (first | with_reducible rfl | assumption | with_reducible exact WB_NB _ _ | (with_reducible refine nb_le ?_; omega) | (with_reducible refine nb16_le ?_; omega) | omega | (simp only [List.length_append, List.length_map, List.length_cons, List.length_nil, List.length_set, List.length_replicate, List.length_take, List.size_toArray]; omega))) [E_QMul, hu, w0, w1, k0, k1, F.out, rx0.1, rx0.2, rx1.1, rx1.2, ry0.1, ry0.2, ry1.1, ry1.2, h00, h01, h10, h11, n1, n2, n3, n4, n5, n6, n7, n8, n9, n10]
        refine .again ?_
        simp only [E_QMul, firstR, mkS_keep, keepT, List.find?, Nat.reduceBEq, Option.map_some, Option.getD_some]
        simp (maxSteps := 4000000) (disch := (first | with_reducible rfl | assumption | with_reducible exact WB_NB _ _ | (with_reducible refine nb_le ?_; omega) | (with_reducible refine nb16_le ?_; omega) | omega | (simp only [List.length_append, List.length_map, List.length_cons, List.length_nil, List.length_set, List.length_replicate, List.length_take, List.size_toArray]; omega))) [E_QMul, hu, w0, w1, k0, k1, F.out, rx0.1, rx0.2, rx1.1, rx1.2, ry0.1, ry0.2, ry1.1, ry1.2, h00, h01, h10, h11, n1, n2, n3, n4, n5, n6, n7, n8, n9, n10]
        refine .again ?_
        simp only [E_QMul, firstR, mkS_keep, keepT, List.find?, Nat.reduceBEq, Option.map_some, Option.getD_some]
        as_aux_lemma =>
          simp (maxSteps := 4000000) (disch := (first | with_reducible rfl | assumption | with_reducible exact WB_NB _ _ | (with_reducible refine nb_le ?_; omega) | (with_reducible refine nb16_le ?_; omega) | omega | (simp only [List.length_append, List.length_map, List.length_cons, List.length_nil, List.length_set, List.length_replicate, List.length_take, List.size_toArray]; omega))) [E_QMul, hu, w0, w1, k0, k1, F.out, rx0.1, rx0.2, rx1.1, rx1.2, ry0.1, ry0.2, ry1.1, ry1.2, h00, h01, h10, h11, n1, n2, n3, n4, n5, n6, n7, n8, n9, n10]
          refine .again ?_
          simp only [E_QMul, firstR, mkS_keep, keepT, List.find?, Nat.reduceBEq, Option.map_some, Option.getD_some]
          simp (maxSteps := 4000000) (disch := (first | with_reducible rfl | assumption | with_reducible exact WB_NB _ _ | (with_reducible refine nb_le ?_; omega) | (with_reducible refine nb16_le ?_; omega) | omega | (simp only [List.length_append, List.length_map, List.length_cons, List.length_nil, List.length_set, List.length_replicate, List.length_take, List.size_toArray]; omega))) [E_QMul, hu, w0, w1, k0, k1, F.out, rx0.1, rx0.2, rx1.1, rx1.2, ry0.1, ry0.2, ry1.1, ry1.2, h00, h01, h10, h11, n1, n2, n3, n4, n5, n6, n7, n8, n9, n10]
          as_aux_lemma =>
            by_cases hs : decide (a0 < 0) = decide (a1 < 0)
            · rw [if_pos hs] at hq hA
              rw [hA]
              simp (maxSteps := 4000000) (disch := (first | with_reducible rfl | assumption | with_reducible exact WB_NB _ _ | (with_reducible refine nb_le ?_; omega) | (with_reducible refine nb16_le ?_; omega) | omega | (simp only [List.length_append, List.length_map, List.length_cons, List.length_nil, List.length_set, List.length_replicate, List.length_take, List.size_toArray]; omega))) [E_QMul, hs]
            · rw [if_neg hs] at hq hA
              have hs2 : (!decide (a0 < 0) == decide (a1 < 0)) = true := by
                clear hq hA
                revert hs; cases decide (a0 < 0) <;> cases decide (a1 < 0) <;> simp
              simp (maxSteps := 4000000) (disch := (first | with_reducible rfl | assumption | with_reducible exact WB_NB _ _ | (with_reducible refine nb_le ?_; omega) | (with_reducible refine nb16_le ?_; omega) | omega | (simp only [List.length_append, List.length_map, List.length_cons, List.length_nil, List.length_set, List.length_replicate, List.length_take, List.size_toArray]; omega))) [E_QMul, hs, hs2, hq, quadA, Int.zero_sub]
theorem sQMul : GoodS (84, QMul) := by
  intro xs r h
  simp only at h
  unfold QMul at h
  split at h
  · obtain ⟨a0, h0, h⟩ := Option.bind_eq_some_iff.1 h
    obtain ⟨a1, h1, h⟩ := Option.bind_eq_some_iff.1 h
    split at h
    · rename_i hc
      cases h
      obtain ⟨rfl, b0⟩ := wideD_out h0
      obtain ⟨rfl, b1⟩ := wideD_out h1
      exact .inl <| okW_ends (mkS_ok (alls_cons sQApart (alls_cons sXMul64 (alls_cons sXAdd64 (alls_cons sQSub alls_nil))))) mixed Tryz.func84 rfl (by kernel_rfl : Fits Tryz.prog E_QMul.ref E_QMul.dep Tryz.f84 = true) (run_QMul _ b0 _ b1 hc)
    · cases h
  · cases h
attribute [simp] QMul
end Go.Proofs.YtofklpmlgfbmlaaGreat.ZRat
