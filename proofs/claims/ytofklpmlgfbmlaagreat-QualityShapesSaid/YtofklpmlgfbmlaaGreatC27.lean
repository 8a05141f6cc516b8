/- Walks by the abstract run: digits of 128 bits. -/
import Derived.Test.YtofklpmlgfbmlaaGreatC10
import Derived.Test.YtofklpmlgfbmlaaGreatC14
import Derived.Test.YtofklpmlgfbmlaaGreatC26
import Derived.Test.YtofklpmlgfbmlaaGreatC8
set_option linter.unusedVariables false
set_option linter.unusedSimpArgs false
namespace Go.Proofs.YtofklpmlgfbmlaaGreat.ZRat
open Go.RowKit Go.Proofs.YtofklpmlgfbmlaaGreat.Wd
open Go Go.Proofs.YtofklpmlgfbmlaaGreat.Ab Go.Proofs Go.Proofs.YtofklpmlgfbmlaaGreat.Num Go.Proofs.YtofklpmlgfbmlaaGreat.ZRatP
set_option maxHeartbeats 8000000
set_option maxRecDepth 100000
/-- Sixteen digits to the base 256. -/
def dg16 (z : Int) : AV := .row 16 ((dgN 16 z).map (AV.int .i64))
def dg16D (x : AV) : Option Int := (unI .i64 x).bind fun l => if dgN 16 (vb256 l) = l then some (vb256 l) else none
theorem dg16_row (z : Int) : dg16 z = rowI .i64 (dgN 16 z) := by simp only [dg16, rowI, dgN_len]
theorem dg16D_out {x : AV} {z : Int} (h : dg16D x = some z) : x = dg16 z ∧ (0 ≤ z ∧ z < 340282366920938463463374607431768211456) := by
  obtain ⟨l, hl, h⟩ := Option.bind_eq_some_iff.1 h
  split at h
  · rename_i e
    cases h
    obtain rfl := unI_eq hl
    have := vb_dgN 16 (vb256 l)
    rw [e] at this
    refine ⟨by rw [dg16_row, e], ?_⟩
    rw [show (256 : Int) ^ 16 = 340282366920938463463374607431768211456 from by decide +kernel] at this
    omega
  · cases h
theorem dg16D_A (z : Int) (hz : 0 ≤ z ∧ z < 340282366920938463463374607431768211456) : dg16D (dg16 z) = some z := by
  have hv := vb_dgN 16 z
  rw [show (256 : Int) ^ 16 = 340282366920938463463374607431768211456 from by decide +kernel, Int.emod_eq_of_lt hz.1 hz.2] at hv
  rw [dg16_row]
  unfold dg16D
  rw [unI_rowI, Option.bind_some, hv, if_pos rfl]
theorem by8 {x : Int} (h : 0 ≤ x ∧ x < 18446744073709551616) (b : Nat) (hb : b < 8) : Go.bits .and .u64 (shr .u64 x (8 * (b : Int))) 255 = x / 256 ^ b % 256 := by
  have e : (8 * (b : Int)) = ((8 * b : Nat) : Int) := by omega
  have := byte_of x b hb
  rw [Int.emod_eq_of_lt h.1 h.2] at this
  rw [e, shr_n (by omega), and255 (Int.ediv_nonneg h.1 (Int.le_of_lt (Int.pow_pos (by omega)))) (Int.lt_of_le_of_lt (Int.ediv_le_self _ h.1) h.2), this]
theorem mem128 : 128 ≤ maxMem := by decide +kernel
attribute [simp] mem128
theorem uw8 : IntKind.u64.wrap 8 = 8 := u64in _ (by omega) (by omega)
theorem uw16 : IntKind.u64.wrap 16 = 16 := u64in _ (by omega) (by omega)
theorem uw24 : IntKind.u64.wrap 24 = 24 := u64in _ (by omega) (by omega)
theorem uw32 : IntKind.u64.wrap 32 = 32 := u64in _ (by omega) (by omega)
theorem uw40 : IntKind.u64.wrap 40 = 40 := u64in _ (by omega) (by omega)
theorem uw48 : IntKind.u64.wrap 48 = 48 := u64in _ (by omega) (by omega)
theorem uw56 : IntKind.u64.wrap 56 = 56 := u64in _ (by omega) (by omega)
attribute [simp] uw8 uw16 uw24 uw32 uw40 uw48 uw56
theorem ww5 : wrap64 5 = 5 := w64in _ (by omega) (by omega)
theorem ww6 : wrap64 6 = 6 := w64in _ (by omega) (by omega)
theorem ww7 : wrap64 7 = 7 := w64in _ (by omega) (by omega)
theorem ww8 : wrap64 8 = 8 := w64in _ (by omega) (by omega)
attribute [simp] ww5 ww6 ww7 ww8
theorem ww9 : wrap64 9 = 9 := w64in _ (by omega) (by omega)
theorem ww10 : wrap64 10 = 10 := w64in _ (by omega) (by omega)
theorem ww11 : wrap64 11 = 11 := w64in _ (by omega) (by omega)
theorem ww12 : wrap64 12 = 12 := w64in _ (by omega) (by omega)
theorem ww13 : wrap64 13 = 13 := w64in _ (by omega) (by omega)
theorem ww14 : wrap64 14 = 14 := w64in _ (by omega) (by omega)
theorem ww15 : wrap64 15 = 15 := w64in _ (by omega) (by omega)
theorem ww16 : wrap64 16 = 16 := w64in _ (by omega) (by omega)
theorem ww24 : wrap64 24 = 24 := w64in _ (by omega) (by omega)
theorem ww32 : wrap64 32 = 32 := w64in _ (by omega) (by omega)
theorem ww40 : wrap64 40 = 40 := w64in _ (by omega) (by omega)
theorem ww48 : wrap64 48 = 48 := w64in _ (by omega) (by omega)
theorem ww56 : wrap64 56 = 56 := w64in _ (by omega) (by omega)
attribute [simp] ww9 ww10 ww11 ww12 ww13 ww14 ww15 ww16 ww24 ww32 ww40 ww48 ww56
theorem wm256 (x : Int) : wrap64 (x % 256) = x % 256 := w64in _ (by omega) (by omega)
attribute [simp] wm256
end Go.Proofs.YtofklpmlgfbmlaaGreat.ZRat
namespace Go.Proofs.YtofklpmlgfbmlaaGreat.ZRat
open Go.RowKit Go.Proofs.YtofklpmlgfbmlaaGreat.Wd
open Go Go.Proofs.YtofklpmlgfbmlaaGreat.Ab Go.Proofs Go.Proofs.YtofklpmlgfbmlaaGreat.Num Go.Proofs.YtofklpmlgfbmlaaGreat.ZRatP
set_option maxHeartbeats 8000000
set_option maxRecDepth 100000
theorem dg16_snoc (a : Int) : ∃ D d, dgN 16 a = D ++ [d] ∧ D.length = 15 := by
  have h := dgN_len 16 a
  generalize dgN 16 a = L at *
  refine ⟨L.take 15, L[15], ?_, by rw [List.length_take]; omega⟩
  have := List.take_append_drop 15 L
  rw [List.drop_eq_getElem_cons (by omega), List.drop_of_length_le (by omega)] at this
  exact this.symm
noncomputable def B1Below : List AV → Option AV
  | [x0] => (dg16D x0).bind fun a0 => if a0 < 170141183460469231731687303715884105728 then some (.bool false) else none
  | _ => none
noncomputable def E_B1Below : Env := mkS [] [] []
theorem run_B1Below (a0 : Int) (b0 : 0 ≤ a0 ∧ a0 < 340282366920938463463374607431768211456) (hc : a0 < 170141183460469231731687303715884105728) : AEnds E_B1Below (finW Tryz.prog Tryz.f128.results) 0 [.code (Tryz.f128.body.getD .skip)] (startA Tryz.f128 [dg16 a0] [] []) (.bool false) := by
  simp only [Tryz.f128, Option.getD_some, startA]
  obtain ⟨D, d, e, hD⟩ := dg16_snoc a0
  have hd : d = a0 / 256 ^ 15 % 256 := by
    have := dgN_get 16 a0 15 (by omega)
    rw [e, List.getElem?_append_right (by omega), hD] at this
    simpa using this
  have hd : ¬ 127 < d ∧ d < 128 := by
    rw [show (256 : Int) ^ 15 = 1329227995784915872903807060280344576 from by decide +kernel] at hd
    omega
  unfold dg16
  rw [e]
  clear e hc b0
  simp (maxSteps := 4000000) (disch := (first | with_reducible rfl | assumption | with_reducible exact WB_NB _ _ | (with_reducible refine nb_le ?_; omega) | (with_reducible refine nb16_le ?_; omega) | omega | (simp only [List.length_append, List.length_map, List.length_cons, List.length_nil, List.length_set, List.length_replicate, List.length_take, List.size_toArray]; omega))) [E_B1Below, hD, hd.1, hd.2]
theorem sB1Below : GoodS (128, B1Below) := by
  intro xs r h
  simp only at h
  unfold B1Below at h
  split at h
  · obtain ⟨a0, h0, h⟩ := Option.bind_eq_some_iff.1 h
    split at h
    · rename_i hc
      cases h
      obtain ⟨rfl, b0⟩ := dg16D_out h0
      exact .inl <| okW_ends (mkS_ok alls_nil) mixed Tryz.func128 rfl (by kernel_rfl : Fits Tryz.prog E_B1Below.ref E_B1Below.dep Tryz.f128 = true) (run_B1Below _ b0 hc)
    · cases h
  · cases h
attribute [simp] B1Below
end Go.Proofs.YtofklpmlgfbmlaaGreat.ZRat
namespace Go.Proofs.YtofklpmlgfbmlaaGreat.ZRat
open Go.RowKit Go.Proofs.YtofklpmlgfbmlaaGreat.Wd
open Go Go.Proofs.YtofklpmlgfbmlaaGreat.Ab Go.Proofs Go.Proofs.YtofklpmlgfbmlaaGreat.Num Go.Proofs.YtofklpmlgfbmlaaGreat.ZRatP
set_option maxHeartbeats 8000000
set_option maxRecDepth 100000
noncomputable def B1OfR : List AV → List Blk → List Bool → Option (AV × List Blk × List Bool)
  | [x], [], [] => (wideD x).bind fun a0 => if 0 ≤ a0 then some (.own 1 0 16 1, [.arr (wcells a0), .arr ((dgN 16 a0).map (AV.int .i64))], [false, false]) else none
  | _, _, _ => none
noncomputable def E_B1OfR : Env := mkS [] [(3, [1, 3, 4])] []
theorem run_B1OfR (a0 : Int) (b0 : -170141183460469231731687303715884105728 ≤ a0 ∧ a0 < 170141183460469231731687303715884105728) (hc : 0 ≤ a0) : AEnds E_B1OfR (finR Tryz.prog Tryz.f130.results) 0 [.code (Tryz.f130.body.getD .skip)] (startA Tryz.f130 [wideA a0] [] []) (.own 1 0 16 1, [.arr (wcells a0), .arr ((dgN 16 a0).map (AV.int .i64))], [false, false]) := by
  simp only [Tryz.f130, Option.getD_some, startA]
  have hx : 0 ≤ a0 / 18446744073709551616 ∧ a0 / 18446744073709551616 < 18446744073709551616 := by omega
  have hy : 0 ≤ a0 % 18446744073709551616 ∧ a0 % 18446744073709551616 < 18446744073709551616 := by omega
  have hk := u64in _ hx.1 hx.2
  have hD : (dgN 16 a0).map (AV.int .i64) = [.int .i64 (a0 % 18446744073709551616 / 256 ^ 0 % 256), .int .i64 (a0 % 18446744073709551616 / 256 ^ 1 % 256), .int .i64 (a0 % 18446744073709551616 / 256 ^ 2 % 256), .int .i64 (a0 % 18446744073709551616 / 256 ^ 3 % 256), .int .i64 (a0 % 18446744073709551616 / 256 ^ 4 % 256), .int .i64 (a0 % 18446744073709551616 / 256 ^ 5 % 256), .int .i64 (a0 % 18446744073709551616 / 256 ^ 6 % 256), .int .i64 (a0 % 18446744073709551616 / 256 ^ 7 % 256), .int .i64 (a0 / 18446744073709551616 / 256 ^ 0 % 256), .int .i64 (a0 / 18446744073709551616 / 256 ^ 1 % 256), .int .i64 (a0 / 18446744073709551616 / 256 ^ 2 % 256), .int .i64 (a0 / 18446744073709551616 / 256 ^ 3 % 256), .int .i64 (a0 / 18446744073709551616 / 256 ^ 4 % 256), .int .i64 (a0 / 18446744073709551616 / 256 ^ 5 % 256), .int .i64 (a0 / 18446744073709551616 / 256 ^ 6 % 256), .int .i64 (a0 / 18446744073709551616 / 256 ^ 7 % 256)] := by
    simp [dgN]
    omega
  rw [hD]
  unfold wideA wcells
  clear hD b0 hc
  generalize a0 / 18446744073709551616 = x at *
  generalize a0 % 18446744073709551616 = y at *
  have qx0 := by8 hx 0 (by omega)
  have qx1 := by8 hx 1 (by omega)
  have qx2 := by8 hx 2 (by omega)
  have qx3 := by8 hx 3 (by omega)
  have qx4 := by8 hx 4 (by omega)
  have qx5 := by8 hx 5 (by omega)
  have qx6 := by8 hx 6 (by omega)
  have qx7 := by8 hx 7 (by omega)
  have qy0 := by8 hy 0 (by omega)
  have qy1 := by8 hy 1 (by omega)
  have qy2 := by8 hy 2 (by omega)
  have qy3 := by8 hy 3 (by omega)
  have qy4 := by8 hy 4 (by omega)
  have qy5 := by8 hy 5 (by omega)
  have qy6 := by8 hy 6 (by omega)
  have qy7 := by8 hy 7 (by omega)
  simp at qx0 qx1 qx2 qx3 qx4 qx5 qx6 qx7 qy0 qy1 qy2 qy3 qy4 qy5 qy6 qy7
  simp (maxSteps := 4000000) (disch := (first | with_reducible rfl | assumption | with_reducible exact WB_NB _ _ | (with_reducible refine nb_le ?_; omega) | (with_reducible refine nb16_le ?_; omega) | omega | (simp only [List.length_append, List.length_map, List.length_cons, List.length_nil, List.length_set, List.length_replicate, List.length_take, List.size_toArray]; omega))) [E_B1OfR, hk, qx0, qx1, qx2, qx3, qx4, qx5, qx6, qx7, qy0, qy1, qy2, qy3, qy4, qy5, qy6, qy7]
  repeat
    (first | refine .loop ?_ | refine .again ?_)
    simp only [E_B1OfR, firstR, mkS_keep, keepT, List.find?, Nat.reduceBEq, Option.map_some, Option.getD_some]
    simp (maxSteps := 4000000) (disch := (first | with_reducible rfl | assumption | with_reducible exact WB_NB _ _ | (with_reducible refine nb_le ?_; omega) | (with_reducible refine nb16_le ?_; omega) | omega | (simp only [List.length_append, List.length_map, List.length_cons, List.length_nil, List.length_set, List.length_replicate, List.length_take, List.size_toArray]; omega))) [E_B1OfR, hk, qx0, qx1, qx2, qx3, qx4, qx5, qx6, qx7, qy0, qy1, qy2, qy3, qy4, qy5, qy6, qy7]
theorem goodB1OfR : GoodR0 130 B1OfR := by
  intro xs h z r h' z' hr
  unfold B1OfR at hr
  split at hr
  · obtain ⟨a0, h0, hr⟩ := Option.bind_eq_some_iff.1 hr
    split at hr
    · rename_i hc
      cases hr
      obtain ⟨rfl, b0⟩ := wideD_out h0
      exact okR_ends (mkS_ok alls_nil) mixed Tryz.func130 rfl (by kernel_rfl : Fits Tryz.prog E_B1OfR.ref E_B1OfR.dep Tryz.f130 = true) (run_B1OfR a0 b0 hc)
    · cases hr
  · cases hr
attribute [simp] B1OfR
end Go.Proofs.YtofklpmlgfbmlaaGreat.ZRat
namespace Go.Proofs.YtofklpmlgfbmlaaGreat.ZRat
open Go.RowKit Go.Proofs.YtofklpmlgfbmlaaGreat.Wd
open Go Go.Proofs.YtofklpmlgfbmlaaGreat.Ab Go.Proofs Go.Proofs.YtofklpmlgfbmlaaGreat.Num Go.Proofs.YtofklpmlgfbmlaaGreat.ZRatP
set_option maxHeartbeats 8000000
set_option maxRecDepth 100000
theorem dgN32 (a : Int) (h : 0 ≤ a) (h1 : a < 170141183460469231731687303715884105728) : dgN 32 a = dgN 16 a ++ List.replicate 16 0 := by
  have e : ∀ k m (z : Int), dgN (k + m) z = dgN k z ++ dgN m (z / 256 ^ k) := by
    intro k
    induction k with
    | zero => intro m z; simp [dgN]
    | succ k ih => intro m z; rw [show k + 1 + m = (k + m) + 1 by omega]; simp only [dgN, ih, List.cons_append]; rw [Int.pow_succ, Int.mul_comm, Int.ediv_ediv_of_nonneg (by omega)]
  have z : ∀ m, dgN m 0 = List.replicate m 0 := by
    intro m
    induction m with
    | zero => rfl
    | succ m ih => simp only [dgN, List.replicate_succ]; rw [show (0 : Int) / 256 = 0 by omega, ih]; rfl
  rw [e 16 16 a, show a / 256 ^ 16 = 0 from Int.ediv_eq_zero_of_lt h (by omega), z]
noncomputable def B2Long : List AV → Option AV
  | [x0] => (wideD x0).bind fun a0 => if 0 ≤ a0 then some (dgA a0) else none
  | _ => none
noncomputable def E_B2Long : Env := mkR [(128, B1Below)] 130 B1OfR [(4, [3, 4])] []
theorem run_B2Long (a0 : Int) (b0 : -170141183460469231731687303715884105728 ≤ a0 ∧ a0 < 170141183460469231731687303715884105728) (hc : 0 ≤ a0) : AEnds E_B2Long (finW Tryz.prog Tryz.f77.results) 0 [.code (Tryz.f77.body.getD .skip)] (startA Tryz.f77 [wideA a0] [] []) (dgA a0) := by
  simp only [Tryz.f77, Option.getD_some, startA]
  have hd := dg16D_A a0 (by omega)
  have hlt : a0 < 170141183460469231731687303715884105728 := b0.2
  have hA : dgA a0 = .row 32 ((dgN 16 a0).map (AV.int .i64) ++ List.replicate 16 (.int .i64 0)) := by
    rw [show dgA a0 = .row 32 ((dgN 32 a0).map (AV.int .i64)) by simp only [dgA, rowI, dgN_len], dgN32 a0 hc hlt]; simp
  have hl : ((dgN 16 a0).map (AV.int .i64)).length = 16 := by rw [List.length_map, dgN_len]
  rw [hA]
  clear hA
  unfold dg16 at hd
  have hw := wideD_A a0 b0
  unfold wideA at hw ⊢
  generalize a0 / 18446744073709551616 = x at *
  generalize a0 % 18446744073709551616 = y at *
  simp (maxSteps := 4000000) (disch := (first | with_reducible rfl | assumption | with_reducible exact WB_NB _ _ | (with_reducible refine nb_le ?_; omega) | (with_reducible refine nb16_le ?_; omega) | omega | (simp only [List.length_append, List.length_map, List.length_cons, List.length_nil, List.length_set, List.length_replicate, List.length_take, List.size_toArray]; omega))) [E_B2Long, hw, hd, hc, hlt, hl]
  repeat
    (first | refine .loop ?_ | refine .again ?_)
    simp only [E_B2Long, firstR, mkR_keep, keepT, List.find?, Nat.reduceBEq, Option.map_some, Option.getD_some]
    simp (maxSteps := 4000000) (disch := (first | with_reducible rfl | assumption | with_reducible exact WB_NB _ _ | (with_reducible refine nb_le ?_; omega) | (with_reducible refine nb16_le ?_; omega) | omega | (simp only [List.length_append, List.length_map, List.length_cons, List.length_nil, List.length_set, List.length_replicate, List.length_take, List.size_toArray]; omega))) [E_B2Long, hw, hd, hc, hlt, hl]
  rw [List.take_of_length_le (by rw [List.length_append, hl]; simp)]
  simp
theorem sB2Long : GoodS (77, B2Long) := by
  intro xs r h
  simp only at h
  unfold B2Long at h
  split at h
  · obtain ⟨a0, h0, h⟩ := Option.bind_eq_some_iff.1 h
    split at h
    · rename_i hc
      cases h
      obtain ⟨rfl, b0⟩ := wideD_out h0
      exact .inl <| okW_ends (mkR_ok (alls_cons sB1Below alls_nil) goodB1OfR) mixed Tryz.func77 rfl (by kernel_rfl : Fits Tryz.prog E_B2Long.ref E_B2Long.dep Tryz.f77 = true) (run_B2Long _ b0 hc)
    · cases h
  · cases h
attribute [simp] B2Long
end Go.Proofs.YtofklpmlgfbmlaaGreat.ZRat
