/- Walks by the abstract run: the quad of digits, a wide's number. -/
import Derived.Test.YtofklpmlgfbmlaaGreatC25
import Derived.Test.YtofklpmlgfbmlaaGreatC26
import Derived.Test.YtofklpmlgfbmlaaGreatC27
import Derived.Test.YtofklpmlgfbmlaaGreatC8
set_option linter.unusedVariables false
set_option linter.unusedSimpArgs false
namespace Go.Proofs.YtofklpmlgfbmlaaGreat.ZRat
open Go.RowKit Go.Proofs.YtofklpmlgfbmlaaGreat.Wd
open Go Go.Proofs.YtofklpmlgfbmlaaGreat.Ab Go.Proofs Go.Proofs.YtofklpmlgfbmlaaGreat.Num Go.Proofs.YtofklpmlgfbmlaaGreat.ZRatP
set_option maxHeartbeats 8000000
set_option maxRecDepth 100000
theorem hor_step (a : Int) (k m : Nat) (hm : m < 8) : IntKind.u64.wrap (a / 256 ^ (k + 1) % 256 ^ m * 256) = a / 256 ^ (k + 1) % 256 ^ m * 256 ∧ IntKind.u64.wrap (a / 256 ^ (k + 1) % 256 ^ m * 256 + a / 256 ^ k % 256) = a / 256 ^ k % 256 ^ (m + 1) := by
  have e : a / 256 ^ (k + 1) = a / 256 ^ k / 256 := by rw [Int.pow_succ, Int.ediv_ediv_of_nonneg (Int.le_of_lt (Int.pow_pos (by omega)))]
  have h1 : (0 : Int) < 256 ^ m := Int.pow_pos (by omega)
  have h2 : (256 : Int) ^ m ≤ 72057594037927936 := by
    have q : m = 0 ∨ m = 1 ∨ m = 2 ∨ m = 3 ∨ m = 4 ∨ m = 5 ∨ m = 6 ∨ m = 7 := by omega
    rcases q with rfl | rfl | rfl | rfl | rfl | rfl | rfl | rfl <;> decide
  have h4 : (256 : Int) ^ (m + 1) = 256 * 256 ^ m := by rw [Int.pow_succ, Int.mul_comm]
  rw [e, h4, emod_mul_eq]
  generalize a / 256 ^ k = b at *
  have h5 := Int.emod_nonneg (b / 256) (by omega : (256 : Int) ^ m ≠ 0)
  have h6 := Int.emod_lt_of_pos (b / 256) h1
  generalize b / 256 % 256 ^ m = c at *
  refine ⟨u64in _ (by omega) (by omega), ?_⟩
  rw [u64in _ (by omega) (by omega)]
  omega
theorem dig_u (a : Int) (k : Nat) : IntKind.u64.wrap (a / 256 ^ k % 256) = a / 256 ^ k % 256 := u64in _ (by omega) (by omega)
theorem ww17 : wrap64 17 = 17 := w64in _ (by omega) (by omega)
theorem ww18 : wrap64 18 = 18 := w64in _ (by omega) (by omega)
theorem ww19 : wrap64 19 = 19 := w64in _ (by omega) (by omega)
theorem ww20 : wrap64 20 = 20 := w64in _ (by omega) (by omega)
theorem ww21 : wrap64 21 = 21 := w64in _ (by omega) (by omega)
theorem ww22 : wrap64 22 = 22 := w64in _ (by omega) (by omega)
theorem ww23 : wrap64 23 = 23 := w64in _ (by omega) (by omega)
theorem ww25 : wrap64 25 = 25 := w64in _ (by omega) (by omega)
theorem ww26 : wrap64 26 = 26 := w64in _ (by omega) (by omega)
theorem ww27 : wrap64 27 = 27 := w64in _ (by omega) (by omega)
theorem ww28 : wrap64 28 = 28 := w64in _ (by omega) (by omega)
theorem ww29 : wrap64 29 = 29 := w64in _ (by omega) (by omega)
theorem ww30 : wrap64 30 = 30 := w64in _ (by omega) (by omega)
theorem ww31 : wrap64 31 = 31 := w64in _ (by omega) (by omega)
theorem wwm1 : wrap64 (-1) = -1 := w64in _ (by omega) (by omega)
attribute [simp] wwm1 ww17 ww18 ww19 ww20 ww21 ww22 ww23 ww25 ww26 ww27 ww28 ww29 ww30 ww31
def qw (a : Int) (k j : Nat) : Int := a / 256 ^ (max k (8 * j)) % 256 ^ (8 * (j + 1) - max k (8 * j))
def qL (a : Int) (k : Nat) : List AV := [.int .u64 (qw a k 0), .int .u64 (qw a k 1), .int .u64 (qw a k 2), .int .u64 (qw a k 3)]
theorem qL_get (a : Int) (k j : Nat) (hj : j < 4) : (qL a k)[j]? = some (.int .u64 (qw a k j)) := by
  match j, hj with
  | 0, _ | 1, _ | 2, _ | 3, _ => rfl
theorem qL_32 (a : Int) : qL a 32 = [.int .u64 0, .int .u64 0, .int .u64 0, .int .u64 0] := by
  have h : ∀ j, j < 4 → qw a 32 j = 0 := fun j hj => by
    unfold qw
    rw [show 8 * (j + 1) - max 32 (8 * j) = 0 by omega, Int.pow_zero, Int.emod_one]
  simp only [qL, h 0 (by omega), h 1 (by omega), h 2 (by omega), h 3 (by omega)]
theorem qL_0 (a : Int) : qL a 0 = quadL a := by
  have e1 : (256 : Int) ^ 8 = 18446744073709551616 := by decide +kernel
  have e2 : (256 : Int) ^ 16 = 340282366920938463463374607431768211456 := by decide +kernel
  have e3 : (256 : Int) ^ 24 = 6277101735386680763835789423207666416102355444464034512896 := by decide +kernel
  have m0 : qw a 0 0 = a / 256 ^ 0 % 256 ^ 8 := rfl
  have m1 : qw a 0 1 = a / 256 ^ 8 % 256 ^ 8 := rfl
  have m2 : qw a 0 2 = a / 256 ^ 16 % 256 ^ 8 := rfl
  have m3 : qw a 0 3 = a / 256 ^ 24 % 256 ^ 8 := rfl
  unfold qL quadL
  rw [m0, m1, m2, m3, e1, e2, e3, Int.pow_zero, Int.ediv_one]
theorem qw_ne (a : Int) (m j : Nat) (hj : j ≠ m / 8) : qw a m j = qw a (m + 1) j := by
  unfold qw
  by_cases h : 8 * j ≤ m
  · rw [show 8 * (j + 1) - max m (8 * j) = 0 by omega, show 8 * (j + 1) - max (m + 1) (8 * j) = 0 by omega, Int.pow_zero, Int.emod_one, Int.emod_one]
  · rw [show max m (8 * j) = 8 * j by omega, show max (m + 1) (8 * j) = 8 * j by omega]
theorem qw_at (a : Int) (m : Nat) : IntKind.u64.wrap (qw a (m + 1) (m / 8) * 256) = qw a (m + 1) (m / 8) * 256 ∧ IntKind.u64.wrap (qw a (m + 1) (m / 8) * 256 + a / 256 ^ m % 256) = qw a m (m / 8) := by
  have h := hor_step a m (8 * (m / 8 + 1) - (m + 1)) (by omega)
  have e : qw a (m + 1) (m / 8) = a / 256 ^ (m + 1) % 256 ^ (8 * (m / 8 + 1) - (m + 1)) := by unfold qw; rw [show max (m + 1) (8 * (m / 8)) = m + 1 by omega]
  have e' : qw a m (m / 8) = a / 256 ^ m % 256 ^ (8 * (m / 8 + 1) - (m + 1) + 1) := by unfold qw; rw [show max m (8 * (m / 8)) = m by omega, show 8 * (m / 8 + 1) - m = 8 * (m / 8 + 1) - (m + 1) + 1 by omega]
  rw [e, e']
  exact h
theorem qL_set (a : Int) (m : Nat) (hm : m < 32) : (qL a (m + 1)).set (m / 8) (.int .u64 (qw a m (m / 8))) = qL a m := by
  have hn := qw_ne a m
  have hj : m / 8 = 0 ∨ m / 8 = 1 ∨ m / 8 = 2 ∨ m / 8 = 3 := by omega
  unfold qL
  rcases hj with h | h | h | h <;> rw [h] <;> simp only [List.set_cons_zero, List.set_cons_succ]
  · rw [hn 1 (by omega), hn 2 (by omega), hn 3 (by omega)]
  · rw [hn 0 (by omega), hn 2 (by omega), hn 3 (by omega)]
  · rw [hn 0 (by omega), hn 1 (by omega), hn 3 (by omega)]
  · rw [hn 0 (by omega), hn 1 (by omega), hn 2 (by omega)]
/-- What a round does. -/
theorem q2_step (a : Int) (i : Nat) (hi : i < 32) (n : Int) (hn : 31 - (i : Int) = n) : ∃ (j : Nat) (v v' d : Int), j < 4 ∧ (qL a (32 - i))[j]? = some (.int .u64 v) ∧ (qL a (32 - i)).set j (.int .u64 v') = qL a (32 - (i + 1)) ∧ d = a / 256 ^ (31 - i) % 256 ∧ Aside0 (0 ≤ n ∧ n < 32 ∧ n.toNat = 31 - i ∧ wrap64 (n.tdiv 8) = j ∧ wrap64 (n / 8) = j ∧ IntKind.u64.wrap d = d ∧ IntKind.u64.wrap (v * 256) = v * 256 ∧ IntKind.u64.wrap (v * 256 + d) = v' ∧ wrap64 (n - 1) = n - 1) := by
  have e : 32 - i = (31 - i) + 1 := by omega
  have e' : 32 - (i + 1) = 31 - i := by omega
  rw [e, e']
  generalize hm : 31 - i = m at *
  have h := qw_at a m
  refine ⟨m / 8, qw a (m + 1) (m / 8), qw a m (m / 8), a / 256 ^ m % 256, by omega, qL_get a _ _ (by omega), qL_set a m (by omega), rfl, ⟨by omega, by omega, by omega, ?_, ?_, dig_u a m, h.1, h.2, ?_⟩⟩
  · rw [Int.tdiv_eq_ediv_of_nonneg (by omega), w64in _ (by omega) (by omega)]; omega
  · rw [w64in _ (by omega) (by omega)]; omega
  · exact w64in _ (by omega) (by omega)
noncomputable def B2Quad : List AV → Option AV
  | [x0] => (dgD x0).bind fun a0 => if 0 ≤ a0 then some (quadA a0) else none
  | _ => none
noncomputable def E_B2Quad : Env := mkS [] [(3, [0, 2, 3, 4])] []
theorem run_B2Quad (a0 : Int) (b0 : 0 ≤ a0 ∧ a0 < 115792089237316195423570985008687907853269984665640564039457584007913129639936) (hc : 0 ≤ a0) : AEnds E_B2Quad (finW Tryz.prog Tryz.f76.results) 0 [.code (Tryz.f76.body.getD .skip)] (startA Tryz.f76 [dgA a0] [] []) (quadA a0) := by
  simp only [Tryz.f76, Option.getD_some, startA]
  rw [show quadA a0 = .agg (quadL a0) from rfl, ← qL_0]
  have hs := q2_step a0
  have hx : ∀ i, i < 32 → ((dgN 32 a0).map (AV.int .i64))[i]? = some (.int .i64 (a0 / 256 ^ i % 256)) := fun i hi => by rw [List.getElem?_map, dgN_get 32 _ _ hi, Option.map_some]
  have hlen : ((dgN 32 a0).map (AV.int .i64)).length = 32 := by rw [List.length_map, dgN_len]
  have hA : dgA a0 = .row 32 ((dgN 32 a0).map (AV.int .i64)) := by simp only [dgA, rowI, dgN_len]
  have hz := qL_32 a0
  rw [hA]
  clear hA b0 hc
  generalize (dgN 32 a0).map (AV.int .i64) = D at *
  simp (maxSteps := 4000000) (disch := (first | with_reducible rfl | assumption | with_reducible exact WB_NB _ _ | (with_reducible refine nb_le ?_; omega) | (with_reducible refine nb16_le ?_; omega) | omega | (simp only [List.length_append, List.length_map, List.length_cons, List.length_nil, List.length_set, List.length_replicate, List.length_take, List.size_toArray]; omega))) [E_B2Quad]
  let C : Nat → AS := fun i => ⟨[.row 32 D, .any, .ptr 0 0, .ptr 1 0, .int .i64 (31 - (i : Int)), .any, .any, .any, .any, .any, .any, .any, .any, .any, .any, .any, .any, .any, .any, .any, .any, .any, .any, .any, .any], [.arr [.int .u64 0, .int .u64 0, .int .u64 0, .int .u64 0], .arr (qL a0 (32 - i))], [false, false]⟩
  refine loop_up C 32 ?_ (fun i hi IH => ?_) ?_
  · simp only [E_B2Quad, firstR, mkS_keep, keepT, List.find?, Nat.reduceBEq, Option.map_some, Option.getD_some]
    simp (maxSteps := 4000000) (disch := (first | with_reducible rfl | assumption | with_reducible exact WB_NB _ _ | (with_reducible refine nb_le ?_; omega) | (with_reducible refine nb16_le ?_; omega) | omega | (simp only [List.length_append, List.length_map, List.length_cons, List.length_nil, List.length_set, List.length_replicate, List.length_take, List.size_toArray]; omega))) [E_B2Quad, C, hz]
  · generalize hn : 31 - (i : Int) = n at *
    obtain ⟨j, v, v', d, hj, g1, hset, hd, F⟩ := hs i hi n hn
    have g2 := hx (31 - i) (by omega)
    rw [← hd] at g2
    have g3 := getE g1
    have g4 := getE g2
    have hl : (qL a0 (32 - i)).length = 4 := rfl
    simp only [C, hn] at IH ⊢
    rw [← hset] at IH
    generalize qL a0 (32 - i) = X at *
    rw [show (31 - ((i + 1 : Nat) : Int)) = n - 1 by omega] at IH
    clear hs hx hset hd hz
    simp (maxSteps := 4000000) (disch := (first | with_reducible rfl | assumption | with_reducible exact WB_NB _ _ | (with_reducible refine nb_le ?_; omega) | (with_reducible refine nb16_le ?_; omega) | omega | (simp only [List.length_append, List.length_map, List.length_cons, List.length_nil, List.length_set, List.length_replicate, List.length_take, List.size_toArray]; omega))) [E_B2Quad, hl, hlen, g1, g2, g3, g4, F.out]
    refine again_of ?_ IH
    simp only [E_B2Quad, firstR, mkS_keep, keepT, List.find?, Nat.reduceBEq, Option.map_some, Option.getD_some]
    simp (maxSteps := 4000000) (disch := (first | with_reducible rfl | assumption | with_reducible exact WB_NB _ _ | (with_reducible refine nb_le ?_; omega) | (with_reducible refine nb16_le ?_; omega) | omega | (simp only [List.length_append, List.length_map, List.length_cons, List.length_nil, List.length_set, List.length_replicate, List.length_take, List.size_toArray]; omega))) [E_B2Quad]
  · simp only [C]
    simp (maxSteps := 4000000) (disch := (first | with_reducible rfl | assumption | with_reducible exact WB_NB _ _ | (with_reducible refine nb_le ?_; omega) | (with_reducible refine nb16_le ?_; omega) | omega | (simp only [List.length_append, List.length_map, List.length_cons, List.length_nil, List.length_set, List.length_replicate, List.length_take, List.size_toArray]; omega))) [E_B2Quad, hlen, qL]
theorem sB2Quad : GoodS (76, B2Quad) := by
  intro xs r h
  simp only at h
  unfold B2Quad at h
  split at h
  · obtain ⟨a0, h0, h⟩ := Option.bind_eq_some_iff.1 h
    split at h
    · rename_i hc
      cases h
      obtain ⟨rfl, b0⟩ := dgD_out h0
      exact .inl <| okW_ends (mkS_ok alls_nil) mixed Tryz.func76 rfl (by kernel_rfl : Fits Tryz.prog E_B2Quad.ref E_B2Quad.dep Tryz.f76 = true) (run_B2Quad _ b0 hc)
    · cases h
  · cases h
attribute [simp] B2Quad
end Go.Proofs.YtofklpmlgfbmlaaGreat.ZRat
namespace Go.Proofs.YtofklpmlgfbmlaaGreat.ZRat
open Go.RowKit Go.Proofs.YtofklpmlgfbmlaaGreat.Wd
open Go Go.Proofs.YtofklpmlgfbmlaaGreat.Ab Go.Proofs Go.Proofs.YtofklpmlgfbmlaaGreat.Num Go.Proofs.YtofklpmlgfbmlaaGreat.ZRatP
set_option maxHeartbeats 8000000
set_option maxRecDepth 100000
noncomputable def LWide : List AV → Option AV
  | [x0] => (wideD x0).bind fun a0 => if 0 ≤ a0 then some (rintA a0) else none
  | _ => none
noncomputable def E_LWide : Env := mkS [(77, B2Long), (76, B2Quad), (75, ZQuad)] [] []
theorem run_LWide (a0 : Int) (b0 : -170141183460469231731687303715884105728 ≤ a0 ∧ a0 < 170141183460469231731687303715884105728) (hc : 0 ≤ a0) : AEnds E_LWide (finW Tryz.prog Tryz.f32.results) 0 [.code (Tryz.f32.body.getD .skip)] (startA Tryz.f32 [wideA a0] [] []) (rintA a0) := by
  simp only [Tryz.f32, Option.getD_some, startA]
  have hq := quadD_A a0 (by omega)
  simp only [quadA] at hq
  have hg := dgD_A a0 (by omega)
  rw [show dgA a0 = .row 32 ((dgN 32 a0).map (AV.int .i64)) by simp only [dgA, rowI, dgN_len]] at hg
  have hw := wideD_A a0 b0
  have hN := dgN_len 32 a0
  simp only [wideA]
  generalize hL : (dgN 32 a0).map (AV.int .i64) = L at *
  simp (maxSteps := 4000000) (disch := (first | with_reducible rfl | assumption | with_reducible exact WB_NB _ _ | (with_reducible refine nb_le ?_; omega) | (with_reducible refine nb16_le ?_; omega) | omega | (simp only [List.length_append, List.length_map, List.length_cons, List.length_nil, List.length_set, List.length_replicate, List.length_take, List.size_toArray]; omega))) [E_LWide, hq, hg, hw, hc, hN, hL, dgA, rowI, quadA]
theorem sLWide : GoodS (32, LWide) := by
  intro xs r h
  simp only at h
  unfold LWide at h
  split at h
  · obtain ⟨a0, h0, h⟩ := Option.bind_eq_some_iff.1 h
    split at h
    · rename_i hc
      cases h
      obtain ⟨rfl, b0⟩ := wideD_out h0
      exact .inl <| okW_ends (mkS_ok (alls_cons sB2Long (alls_cons sB2Quad (alls_cons sZQuad alls_nil)))) mixed Tryz.func32 rfl (by kernel_rfl : Fits Tryz.prog E_LWide.ref E_LWide.dep Tryz.f32 = true) (run_LWide _ b0 hc)
    · cases h
  · cases h
attribute [simp] LWide
end Go.Proofs.YtofklpmlgfbmlaaGreat.ZRat
