/- Walks by the abstract run: numbers of 128 bits, the product. -/
import Derived.Test.YtofklpmlgfbmlaaGreatC23
import Derived.Test.YtofklpmlgfbmlaaGreatC8
set_option linter.unusedVariables false
set_option linter.unusedSimpArgs false
namespace Go.Proofs.YtofklpmlgfbmlaaGreat.ZRat
open Go.RowKit Go.Proofs.YtofklpmlgfbmlaaGreat.Wd
open Go Go.Proofs.YtofklpmlgfbmlaaGreat.Ab Go.Proofs Go.Proofs.YtofklpmlgfbmlaaGreat.Num Go.Proofs.YtofklpmlgfbmlaaGreat.ZRatP
set_option linter.unusedSimpArgs false
set_option linter.unusedVariables false
set_option maxHeartbeats 8000000
set_option maxRecDepth 100000
noncomputable def QOfQuad : List AV → Option AV
  | [x0] => (quadD x0).bind fun a0 => some (intA a0)
  | _ => none
noncomputable def E_QOfQuad : Env := mkS [(133, QSign), (134, QNeg), (91, WNm)] [(6, [2, 3, 4, 13, 14])] []
theorem run_QOfQuad (a0 : Int) (b0 : -57896044618658097711785492504343953926634992332820282019728792003956564819968 ≤ a0 ∧ a0 < 57896044618658097711785492504343953926634992332820282019728792003956564819968) : AEnds E_QOfQuad (finW Tryz.prog Tryz.f83.results) 0 [.code (Tryz.f83.body.getD .skip)] (startA Tryz.f83 [quadA a0] [] []) (intA a0) := by
  simp only [Tryz.f83, Option.getD_some, startA]
  have key : ∀ p q r s : Int, (0 ≤ p ∧ p < 18446744073709551616) → (0 ≤ q ∧ q < 18446744073709551616) → (0 ≤ r ∧ r < 18446744073709551616) → (0 ≤ s ∧ s < 18446744073709551616) → ∀ z : Int, z = p + q * 18446744073709551616 + r * 340282366920938463463374607431768211456 + s * 6277101735386680763835789423207666416102355444464034512896 →
      natD 1000000 (.row 8 [.int .u32 (p % 4294967296), .int .u32 (p / 4294967296), .int .u32 (q % 4294967296), .int .u32 (q / 4294967296), .int .u32 (r % 4294967296), .int .u32 (r / 4294967296), .int .u32 (s % 4294967296), .int .u32 (s / 4294967296)]) = some z.natAbs := by
    intro p q r s hp hq hr hs z hz
    have hw : WB 4294967296 [p % 4294967296, p / 4294967296, q % 4294967296, q / 4294967296, r % 4294967296, r / 4294967296, s % 4294967296, s / 4294967296] := by
      simp only [WB_cons, WB_nil, and_true]
      refine ⟨?_, ?_, ?_, ?_, ?_, ?_, ?_, ?_⟩ <;> constructor <;> omega
    have := natD_row (L := 1000000) (n := 8) rfl hw (by simp)
    simp only [List.map_cons, List.map_nil] at this
    rw [this]
    simp only [VB]
    congr 1
    omega
  by_cases hneg : a0 < 0
  · have hsg : a0.sign < 0 := by rw [Int.sign_eq_neg_one_of_neg hneg]; decide
    obtain ⟨p, q, r, s, e, hp, hq, hr, hs, hv⟩ := quad_words0 (-a0) (by omega) (by omega)
    have hk := key p q r s hp hq hr hs _ hv
    have hab : -(((-a0).natAbs : Nat) : Int) = a0 := by omega
    have hz := quadD_U a0 b0
    simp only [quadA] at e ⊢
    simp only [AV.agg.injEq, List.cons.injEq, AV.int.injEq, true_and, and_true] at e
    obtain ⟨e1, e2, e3, e4⟩ := e
    have f1 := fdivP (a := p) (b := 4294967296) (by omega)
    have f2 := fdivP (a := q) (b := 4294967296) (by omega)
    have f3 := fdivP (a := r) (b := 4294967296) (by omega)
    have f4 := fdivP (a := s) (b := 4294967296) (by omega)
    have g1 : p / 4294967296 % 4294967296 = p / 4294967296 := by omega
    have g2 : q / 4294967296 % 4294967296 = q / 4294967296 := by omega
    have g3 : r / 4294967296 % 4294967296 = r / 4294967296 := by omega
    have g4 : s / 4294967296 % 4294967296 = s / 4294967296 := by omega
    simp (maxSteps := 4000000) (disch := (first | with_reducible rfl | assumption | with_reducible exact WB_NB _ _ | (with_reducible refine nb_le ?_; omega) | (with_reducible refine nb16_le ?_; omega) | omega | (simp only [List.length_append, List.length_map, List.length_cons, List.length_nil, List.length_set, List.length_replicate, List.length_take, List.size_toArray]; omega))) [E_QOfQuad, hz, hsg, e1, e2, e3, e4, f1, f2, f3, f4, g1, g2, g3, g4, hk, hab, quadA]
    refine .loop ?_
    simp only [E_QOfQuad, firstR, mkS_keep, keepT, List.find?, Nat.reduceBEq, Option.map_some, Option.getD_some]
    simp (maxSteps := 4000000) (disch := (first | with_reducible rfl | assumption | with_reducible exact WB_NB _ _ | (with_reducible refine nb_le ?_; omega) | (with_reducible refine nb16_le ?_; omega) | omega | (simp only [List.length_append, List.length_map, List.length_cons, List.length_nil, List.length_set, List.length_replicate, List.length_take, List.size_toArray]; omega))) [E_QOfQuad, hz, hsg, e1, e2, e3, e4, f1, f2, f3, f4, g1, g2, g3, g4, hk, hab, quadA]
    refine .again ?_
    simp only [E_QOfQuad, firstR, mkS_keep, keepT, List.find?, Nat.reduceBEq, Option.map_some, Option.getD_some]
    simp (maxSteps := 4000000) (disch := (first | with_reducible rfl | assumption | with_reducible exact WB_NB _ _ | (with_reducible refine nb_le ?_; omega) | (with_reducible refine nb16_le ?_; omega) | omega | (simp only [List.length_append, List.length_map, List.length_cons, List.length_nil, List.length_set, List.length_replicate, List.length_take, List.size_toArray]; omega))) [E_QOfQuad, hz, hsg, e1, e2, e3, e4, f1, f2, f3, f4, g1, g2, g3, g4, hk, hab, quadA]
    refine .again ?_
    simp only [E_QOfQuad, firstR, mkS_keep, keepT, List.find?, Nat.reduceBEq, Option.map_some, Option.getD_some]
    simp (maxSteps := 4000000) (disch := (first | with_reducible rfl | assumption | with_reducible exact WB_NB _ _ | (with_reducible refine nb_le ?_; omega) | (with_reducible refine nb16_le ?_; omega) | omega | (simp only [List.length_append, List.length_map, List.length_cons, List.length_nil, List.length_set, List.length_replicate, List.length_take, List.size_toArray]; omega))) [E_QOfQuad, hz, hsg, e1, e2, e3, e4, f1, f2, f3, f4, g1, g2, g3, g4, hk, hab, quadA]
    refine .again ?_
    simp only [E_QOfQuad, firstR, mkS_keep, keepT, List.find?, Nat.reduceBEq, Option.map_some, Option.getD_some]
    simp (maxSteps := 4000000) (disch := (first | with_reducible rfl | assumption | with_reducible exact WB_NB _ _ | (with_reducible refine nb_le ?_; omega) | (with_reducible refine nb16_le ?_; omega) | omega | (simp only [List.length_append, List.length_map, List.length_cons, List.length_nil, List.length_set, List.length_replicate, List.length_take, List.size_toArray]; omega))) [E_QOfQuad, hz, hsg, e1, e2, e3, e4, f1, f2, f3, f4, g1, g2, g3, g4, hk, hab, quadA]
    refine .again ?_
    simp only [E_QOfQuad, firstR, mkS_keep, keepT, List.find?, Nat.reduceBEq, Option.map_some, Option.getD_some]
    simp (maxSteps := 4000000) (disch := (first | with_reducible rfl | assumption | with_reducible exact WB_NB _ _ | (with_reducible refine nb_le ?_; omega) | (with_reducible refine nb16_le ?_; omega) | omega | (simp only [List.length_append, List.length_map, List.length_cons, List.length_nil, List.length_set, List.length_replicate, List.length_take, List.size_toArray]; omega))) [E_QOfQuad, hz, hsg, e1, e2, e3, e4, f1, f2, f3, f4, g1, g2, g3, g4, hk, hab, quadA]
  · have hsg : ¬ a0.sign < 0 := by
      rcases Int.lt_or_eq_of_le (show 0 ≤ a0 by omega) with h | h
      · rw [Int.sign_eq_one_of_pos h]; decide
      · rw [← h]; decide
    obtain ⟨p, q, r, s, e, hp, hq, hr, hs, hv⟩ := quad_words0 a0 (by omega) (by omega)
    have hk := key p q r s hp hq hr hs _ hv
    have hab : ((a0.natAbs : Nat) : Int) = a0 := by omega
    have hz := quadD_U a0 b0
    simp only [quadA] at e hz ⊢
    simp only [AV.agg.injEq, List.cons.injEq, AV.int.injEq, true_and, and_true] at e
    obtain ⟨e1, e2, e3, e4⟩ := e
    rw [e1, e2, e3, e4] at hz ⊢
    have f1 := fdivP (a := p) (b := 4294967296) (by omega)
    have f2 := fdivP (a := q) (b := 4294967296) (by omega)
    have f3 := fdivP (a := r) (b := 4294967296) (by omega)
    have f4 := fdivP (a := s) (b := 4294967296) (by omega)
    have g1 : p / 4294967296 % 4294967296 = p / 4294967296 := by omega
    have g2 : q / 4294967296 % 4294967296 = q / 4294967296 := by omega
    have g3 : r / 4294967296 % 4294967296 = r / 4294967296 := by omega
    have g4 : s / 4294967296 % 4294967296 = s / 4294967296 := by omega
    simp (maxSteps := 4000000) (disch := (first | with_reducible rfl | assumption | with_reducible exact WB_NB _ _ | (with_reducible refine nb_le ?_; omega) | (with_reducible refine nb16_le ?_; omega) | omega | (simp only [List.length_append, List.length_map, List.length_cons, List.length_nil, List.length_set, List.length_replicate, List.length_take, List.size_toArray]; omega))) [E_QOfQuad, hz, hsg, f1, f2, f3, f4, g1, g2, g3, g4, hk, hab]
    refine .loop ?_
    simp only [E_QOfQuad, firstR, mkS_keep, keepT, List.find?, Nat.reduceBEq, Option.map_some, Option.getD_some]
    simp (maxSteps := 4000000) (disch := (first | with_reducible rfl | assumption | with_reducible exact WB_NB _ _ | (with_reducible refine nb_le ?_; omega) | (with_reducible refine nb16_le ?_; omega) | omega | (simp only [List.length_append, List.length_map, List.length_cons, List.length_nil, List.length_set, List.length_replicate, List.length_take, List.size_toArray]; omega))) [E_QOfQuad, hz, hsg, f1, f2, f3, f4, g1, g2, g3, g4, hk, hab]
    refine .again ?_
    simp only [E_QOfQuad, firstR, mkS_keep, keepT, List.find?, Nat.reduceBEq, Option.map_some, Option.getD_some]
    simp (maxSteps := 4000000) (disch := (first | with_reducible rfl | assumption | with_reducible exact WB_NB _ _ | (with_reducible refine nb_le ?_; omega) | (with_reducible refine nb16_le ?_; omega) | omega | (simp only [List.length_append, List.length_map, List.length_cons, List.length_nil, List.length_set, List.length_replicate, List.length_take, List.size_toArray]; omega))) [E_QOfQuad, hz, hsg, f1, f2, f3, f4, g1, g2, g3, g4, hk, hab]
    refine .again ?_
    simp only [E_QOfQuad, firstR, mkS_keep, keepT, List.find?, Nat.reduceBEq, Option.map_some, Option.getD_some]
    simp (maxSteps := 4000000) (disch := (first | with_reducible rfl | assumption | with_reducible exact WB_NB _ _ | (with_reducible refine nb_le ?_; omega) | (with_reducible refine nb16_le ?_; omega) | omega | (simp only [List.length_append, List.length_map, List.length_cons, List.length_nil, List.length_set, List.length_replicate, List.length_take, List.size_toArray]; omega))) [E_QOfQuad, hz, hsg, f1, f2, f3, f4, g1, g2, g3, g4, hk, hab]
    refine .again ?_
    simp only [E_QOfQuad, firstR, mkS_keep, keepT, List.find?, Nat.reduceBEq, Option.map_some, Option.getD_some]
    simp (maxSteps := 4000000) (disch := (first | with_reducible rfl | assumption | with_reducible exact WB_NB _ _ | (with_reducible refine nb_le ?_; omega) | (with_reducible refine nb16_le ?_; omega) | omega | (simp only [List.length_append, List.length_map, List.length_cons, List.length_nil, List.length_set, List.length_replicate, List.length_take, List.size_toArray]; omega))) [E_QOfQuad, hz, hsg, f1, f2, f3, f4, g1, g2, g3, g4, hk, hab]
    refine .again ?_
    simp only [E_QOfQuad, firstR, mkS_keep, keepT, List.find?, Nat.reduceBEq, Option.map_some, Option.getD_some]
    simp (maxSteps := 4000000) (disch := (first | with_reducible rfl | assumption | with_reducible exact WB_NB _ _ | (with_reducible refine nb_le ?_; omega) | (with_reducible refine nb16_le ?_; omega) | omega | (simp only [List.length_append, List.length_map, List.length_cons, List.length_nil, List.length_set, List.length_replicate, List.length_take, List.size_toArray]; omega))) [E_QOfQuad, hz, hsg, f1, f2, f3, f4, g1, g2, g3, g4, hk, hab]
theorem sQOfQuad : GoodS (83, QOfQuad) := by
  intro xs r h
  simp only at h
  unfold QOfQuad at h
  split at h
  · obtain ⟨a0, h0, h⟩ := Option.bind_eq_some_iff.1 h
    cases h
    obtain ⟨rfl, b0⟩ := quadD_out h0
    exact .inl <| okW_ends (mkS_ok (alls_cons sQSign (alls_cons sQNeg (alls_cons sWNm alls_nil)))) mixed Tryz.func83 rfl (by kernel_rfl : Fits Tryz.prog E_QOfQuad.ref E_QOfQuad.dep Tryz.f83 = true) (run_QOfQuad _ b0)
  · cases h
attribute [simp] QOfQuad
end Go.Proofs.YtofklpmlgfbmlaaGreat.ZRat
