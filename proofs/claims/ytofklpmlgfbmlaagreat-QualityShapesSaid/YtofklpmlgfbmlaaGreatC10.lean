/- Walks by the abstract run: numbers of 128 and of 256 bits. -/
import Derived.Test.YtofklpmlgfbmlaaGreatC8
import Derived.Shelf.Spec.BitsCarry
import Derived.Shelf.Bits.Mul64
set_option linter.unusedVariables false
set_option linter.unusedSimpArgs false
namespace Go.Proofs.YtofklpmlgfbmlaaGreat.ZRat
open Go.RowKit Go.Proofs.YtofklpmlgfbmlaaGreat.Wd
open Go Go.Proofs.YtofklpmlgfbmlaaGreat.Ab Go.Proofs Go.Proofs.YtofklpmlgfbmlaaGreat.Num Go.Proofs.YtofklpmlgfbmlaaGreat.ZRatP
set_option linter.unusedSimpArgs false
set_option linter.unusedVariables false
set_option maxHeartbeats 8000000
set_option maxRecDepth 100000
/-- A number of 256 bits, as four words. -/
def quadA (z : Int) : AV := .agg [.int .u64 (z % 18446744073709551616), .int .u64 (z / 18446744073709551616 % 18446744073709551616), .int .u64 (z / 340282366920938463463374607431768211456 % 18446744073709551616), .int .u64 (z / 6277101735386680763835789423207666416102355444464034512896 % 18446744073709551616)]
def quadD : AV → Option Int
  | .agg [.int .u64 a, .int .u64 b, .int .u64 c, .int .u64 d] =>
    if 0 ≤ a ∧ a < 18446744073709551616 ∧ 0 ≤ b ∧ b < 18446744073709551616 ∧ 0 ≤ c ∧ c < 18446744073709551616 ∧ 0 ≤ d ∧ d < 18446744073709551616 then some (a + b * 18446744073709551616 + c * 340282366920938463463374607431768211456 + d * 6277101735386680763835789423207666416102355444464034512896 - (if 9223372036854775808 ≤ d then 115792089237316195423570985008687907853269984665640564039457584007913129639936 else 0)) else none
  | _ => none
theorem quad_of {p q r s t z : Int} (hp : 0 ≤ p ∧ p < 18446744073709551616) (hq : 0 ≤ q ∧ q < 18446744073709551616) (hr : 0 ≤ r ∧ r < 18446744073709551616) (hs : 0 ≤ s ∧ s < 18446744073709551616) (h : z = p + q * 18446744073709551616 + r * 340282366920938463463374607431768211456 + s * 6277101735386680763835789423207666416102355444464034512896 + t * 115792089237316195423570985008687907853269984665640564039457584007913129639936) :
    quadA z = .agg [.int .u64 p, .int .u64 q, .int .u64 r, .int .u64 s] := by
  unfold quadA
  have e1 : z % 18446744073709551616 = p := by omega
  have e2 : z / 18446744073709551616 % 18446744073709551616 = q := by omega
  have e3 : z / 340282366920938463463374607431768211456 % 18446744073709551616 = r := by omega
  have e4 : z / 6277101735386680763835789423207666416102355444464034512896 % 18446744073709551616 = s := by omega
  rw [e1, e2, e3, e4]
theorem quadD_out {x : AV} {z : Int} (h : quadD x = some z) : x = quadA z ∧ (-57896044618658097711785492504343953926634992332820282019728792003956564819968 ≤ z ∧ z < 57896044618658097711785492504343953926634992332820282019728792003956564819968) := by
  unfold quadD at h
  split at h
  · rename_i a b c d
    split at h
    · rename_i hc
      simp only [Option.some.injEq] at h
      constructor
      · refine (quad_of (t := -(if 9223372036854775808 ≤ d then 1 else 0)) ⟨hc.1, hc.2.1⟩ ⟨hc.2.2.1, hc.2.2.2.1⟩ ⟨hc.2.2.2.2.1, hc.2.2.2.2.2.1⟩ ⟨hc.2.2.2.2.2.2.1, hc.2.2.2.2.2.2.2⟩ ?_).symm
        rw [← h]; split <;> omega
      · rw [← h]; split <;> omega
    · cases h
  · cases h
/-- The words of a number. -/
theorem quad_words (z : Int) (hz : -57896044618658097711785492504343953926634992332820282019728792003956564819968 ≤ z ∧ z < 57896044618658097711785492504343953926634992332820282019728792003956564819968) : ∃ p q r s : Int, quadA z = .agg [.int .u64 p, .int .u64 q, .int .u64 r, .int .u64 s] ∧ (0 ≤ p ∧ p < 18446744073709551616) ∧ (0 ≤ q ∧ q < 18446744073709551616) ∧ (0 ≤ r ∧ r < 18446744073709551616) ∧ (0 ≤ s ∧ s < 18446744073709551616) ∧
    z = p + q * 18446744073709551616 + r * 340282366920938463463374607431768211456 + s * 6277101735386680763835789423207666416102355444464034512896 - (if 9223372036854775808 ≤ s then 115792089237316195423570985008687907853269984665640564039457584007913129639936 else 0) := by
  refine ⟨z % 18446744073709551616, z / 18446744073709551616 % 18446744073709551616, z / 340282366920938463463374607431768211456 % 18446744073709551616, z / 6277101735386680763835789423207666416102355444464034512896 % 18446744073709551616, rfl, by omega, by omega, by omega, by omega, ?_⟩
  split <;> omega
theorem quadD_A (z : Int) (hz : -57896044618658097711785492504343953926634992332820282019728792003956564819968 ≤ z ∧ z < 57896044618658097711785492504343953926634992332820282019728792003956564819968) : quadD (quadA z) = some z := by
  obtain ⟨p, q, r, s, e, hp, hq, hr, hs, h⟩ := quad_words z hz
  rw [e]
  simp only [quadD]
  rw [if_pos ⟨hp.1, hp.2, hq.1, hq.2, hr.1, hr.2, hs.1, hs.2⟩, ← h]
theorem quad_words0 (z : Int) (h0 : 0 ≤ z) (h1 : z < 115792089237316195423570985008687907853269984665640564039457584007913129639936) : ∃ p q r s : Int, quadA z = .agg [.int .u64 p, .int .u64 q, .int .u64 r, .int .u64 s] ∧ (0 ≤ p ∧ p < 18446744073709551616) ∧ (0 ≤ q ∧ q < 18446744073709551616) ∧ (0 ≤ r ∧ r < 18446744073709551616) ∧ (0 ≤ s ∧ s < 18446744073709551616) ∧
    z = p + q * 18446744073709551616 + r * 340282366920938463463374607431768211456 + s * 6277101735386680763835789423207666416102355444464034512896 := ⟨z % 18446744073709551616, z / 18446744073709551616 % 18446744073709551616, z / 340282366920938463463374607431768211456 % 18446744073709551616, z / 6277101735386680763835789423207666416102355444464034512896 % 18446744073709551616, rfl, by omega, by omega, by omega, by omega, by omega⟩
theorem wr1 : wrap64 1 = 1 := by decide +kernel
theorem wr2 : wrap64 2 = 2 := by decide +kernel
theorem wr3 : wrap64 3 = 3 := by decide +kernel
theorem wr4 : wrap64 4 = 4 := by decide +kernel
attribute [simp] wr1 wr2 wr3 wr4
theorem args3 {S : Nat → Prop} {w : World} {xs : List AV} {args : List Value} {x y c : AV} (e : xs = [x, y, c]) (h : LR (V2 none' S w) xs args) : ∃ a b d, args = [a, b, d] ∧ V2 none' S w x a ∧ V2 none' S w y b ∧ V2 none' S w c d := by
  subst e
  obtain ⟨h1, h2⟩ := h
  obtain ⟨a, ha, va⟩ := h2 0 _ rfl
  obtain ⟨b, hb, vb⟩ := h2 1 _ rfl
  obtain ⟨d, hd, vd⟩ := h2 2 _ rfl
  refine ⟨a, b, d, ?_, va, vb, vd⟩
  match args, h1, ha, hb, hd with
  | [a', b', d'], _, ha, hb, hd => simp at ha hb hd; rw [ha, hb, hd]
noncomputable def XSub64 : List AV → Option AV
  | [x, y, c] => (unN .u64 x).bind fun a => (unN .u64 y).bind fun b => (unN .u64 c).bind fun d =>
    if 0 ≤ a ∧ a < 18446744073709551616 ∧ 0 ≤ b ∧ b < 18446744073709551616 ∧ 0 ≤ d ∧ d ≤ 1 then some (.tup [.int .u64 ((a - b - d) % 18446744073709551616), .int .u64 (if a < b + d then 1 else 0)]) else none
  | _ => none
theorem sXSub64 : GoodS (168, XSub64) := by
  intro xs r h
  simp only at h
  unfold XSub64 at h
  split at h
  · obtain ⟨a, h0, h⟩ := Option.bind_eq_some_iff.1 h
    obtain ⟨b, h1, h⟩ := Option.bind_eq_some_iff.1 h
    obtain ⟨d, h2, h⟩ := Option.bind_eq_some_iff.1 h
    split at h
    · rename_i hc
      cases h
      obtain rfl := unN_eq h0
      obtain rfl := unN_eq h1
      obtain rfl := unN_eq h2
      refine .inr ⟨rfl, fun S w args ha => ?_⟩
      obtain ⟨u, v, t, rfl, hu, hv, ht⟩ := args3 rfl ha
      simp only [V2, V1, P1] at hu hv ht
      subst hu hv ht
      obtain ⟨a, rfl⟩ := Int.eq_ofNat_of_zero_le hc.1
      obtain ⟨b, rfl⟩ := Int.eq_ofNat_of_zero_le hc.2.2.1
      obtain ⟨d, rfl⟩ := Int.eq_ofNat_of_zero_le hc.2.2.2.2.1
      refine ⟨.tuple #[.int .u64 (((a + 18446744073709551616 - b - d) % 18446744073709551616 : Nat) : Int), .int .u64 ((if a < b + d then 1 else 0 : Nat) : Int)], ?_, ?_⟩
      · show (callFunc 168 #[.int .u64 (a : Int), .int .u64 (b : Int), .int .u64 (d : Int)]).run Tryz.prog w = _
        rw [run_callFunc_extern Tryz.func168 (by kernel_rfl) (by kernel_rfl) (by kernel_rfl) (e := sub64Entry) (by kernel_rfl), run_sub64 a b d (by omega)]
        rfl
      · simp only [V3]
        refine ⟨_, rfl, rfl, fun j q hj => ?_⟩
        match j, hj with
        | 0, hj =>
          simp at hj; subst hj
          refine ⟨_, rfl, ?_⟩
          simp only [V2, V1, P1]
          have : (((a + 18446744073709551616 - b - d) % 18446744073709551616 : Nat) : Int) = ((a : Int) - b - d) % 18446744073709551616 := by omega
          rw [this]
          rfl
        | 1, hj =>
          simp at hj; subst hj
          refine ⟨_, rfl, ?_⟩
          simp only [V2, V1, P1]
          have : ((if a < b + d then 1 else 0 : Nat) : Int) = (if (a : Int) < b + d then 1 else 0) := by split <;> split <;> omega
          rw [this]
          rfl
    · cases h
  · cases h
attribute [simp] XSub64
noncomputable def QSub : List AV → Option AV
  | [x0, x1] => (quadD x0).bind fun a0 => (quadD x1).bind fun a1 => some (quadA (a0 - a1))
  | _ => none
noncomputable def E_QSub : Env := mkS [(168, XSub64)] [(3, [2, 3, 4, 5, 7])] []
theorem run_QSub (a0 : Int) (b0 : -57896044618658097711785492504343953926634992332820282019728792003956564819968 ≤ a0 ∧ a0 < 57896044618658097711785492504343953926634992332820282019728792003956564819968) (a1 : Int) (b1 : -57896044618658097711785492504343953926634992332820282019728792003956564819968 ≤ a1 ∧ a1 < 57896044618658097711785492504343953926634992332820282019728792003956564819968) : AEnds E_QSub (finW Tryz.prog Tryz.f137.results) 0 [.code (Tryz.f137.body.getD .skip)] (startA Tryz.f137 [quadA a0, quadA a1] [] []) (quadA (a0 - a1)) := by
  simp only [Tryz.f137, Option.getD_some, startA]
  obtain ⟨p0, q0, r0, s0, e0, ⟨hp0, hp0'⟩, ⟨hq0, hq0'⟩, ⟨hr0, hr0'⟩, ⟨hs0, hs0'⟩, v0⟩ := quad_words a0 b0
  obtain ⟨p1, q1, r1, s1, e1, ⟨hp1, hp1'⟩, ⟨hq1, hq1'⟩, ⟨hr1, hr1'⟩, ⟨hs1, hs1'⟩, v1⟩ := quad_words a1 b1
  have key : quadA (a0 - a1) = .agg [.int .u64 ((p0 - p1) % 18446744073709551616), .int .u64 ((q0 - q1 - (if p0 < p1 then 1 else 0)) % 18446744073709551616), .int .u64 ((r0 - r1 - (if q0 < q1 + (if p0 < p1 then 1 else 0) then 1 else 0)) % 18446744073709551616), .int .u64 ((s0 - s1 - (if r0 < r1 + (if q0 < q1 + (if p0 < p1 then 1 else 0) then 1 else 0) then 1 else 0)) % 18446744073709551616)] := by
    generalize hc1 : (if p0 < p1 then (1 : Int) else 0) = c1
    have k1 : (c1 = 0 ∧ p1 ≤ p0) ∨ (c1 = 1 ∧ p0 < p1) := by rw [← hc1]; split <;> omega
    generalize hc2 : (if q0 < q1 + c1 then (1 : Int) else 0) = c2
    have k2 : (c2 = 0 ∧ q1 + c1 ≤ q0) ∨ (c2 = 1 ∧ q0 < q1 + c1) := by rw [← hc2]; split <;> omega
    generalize hc3 : (if r0 < r1 + c2 then (1 : Int) else 0) = c3
    have k3 : (c3 = 0 ∧ r1 + c2 ≤ r0) ∨ (c3 = 1 ∧ r0 < r1 + c2) := by rw [← hc3]; split <;> omega
    have d0 : (p0 - p1) % 18446744073709551616 = p0 - p1 + c1 * 18446744073709551616 := by omega
    have d1 : (q0 - q1 - c1) % 18446744073709551616 = q0 - q1 - c1 + c2 * 18446744073709551616 := by omega
    have d2 : (r0 - r1 - c2) % 18446744073709551616 = r0 - r1 - c2 + c3 * 18446744073709551616 := by omega
    have d3 := Int.mul_ediv_add_emod (s0 - s1 - c3) 18446744073709551616
    refine quad_of (t := (s0 - s1 - c3) / 18446744073709551616 - (if 9223372036854775808 ≤ s0 then 1 else 0) + (if 9223372036854775808 ≤ s1 then 1 else 0)) (by omega) (by omega) (by omega) (by omega) ?_
    clear hc1 hc2 hc3 e0 e1
    rw [v0, v1]
    clear v0 v1
    split <;> split <;> omega
  rw [key, e0, e1]
  generalize hc1 : (if p0 < p1 then (1 : Int) else 0) = c1
  have k1 : 0 ≤ c1 ∧ c1 ≤ 1 := by rw [← hc1]; split <;> omega
  generalize hc2 : (if q0 < q1 + c1 then (1 : Int) else 0) = c2
  have k2 : 0 ≤ c2 ∧ c2 ≤ 1 := by rw [← hc2]; split <;> omega
  generalize hc3 : (if r0 < r1 + c2 then (1 : Int) else 0) = c3
  have k3 : 0 ≤ c3 ∧ c3 ≤ 1 := by rw [← hc3]; split <;> omega
  clear v0 v1 e0 e1 key b0 b1
  simp (maxSteps := 4000000) (disch := (first | with_reducible rfl | assumption | with_reducible exact WB_NB _ _ | (with_reducible refine nb_le ?_; omega) | (with_reducible refine nb16_le ?_; omega) | omega | (simp only [List.length_append, List.length_map, List.length_cons, List.length_nil, List.length_set, List.length_replicate, List.length_take, List.size_toArray]; omega))) [E_QSub, hp0, hp0', hq0, hq0', hr0, hr0', hs0, hs0', hp1, hp1', hq1, hq1', hr1, hr1', hs1, hs1', hc1, hc2, hc3, k1, k2, k3, Int.add_zero, Int.sub_zero]
  refine .loop ?_
  simp only [E_QSub, firstR, mkS_keep, keepT, List.find?, Nat.reduceBEq, Option.map_some, Option.getD_some]
  simp (maxSteps := 4000000) (disch := (first | with_reducible rfl | assumption | with_reducible exact WB_NB _ _ | (with_reducible refine nb_le ?_; omega) | (with_reducible refine nb16_le ?_; omega) | omega | (simp only [List.length_append, List.length_map, List.length_cons, List.length_nil, List.length_set, List.length_replicate, List.length_take, List.size_toArray]; omega))) [E_QSub, hp0, hp0', hq0, hq0', hr0, hr0', hs0, hs0', hp1, hp1', hq1, hq1', hr1, hr1', hs1, hs1', hc1, hc2, hc3, k1, k2, k3, Int.add_zero, Int.sub_zero]
  refine .again ?_
  simp only [E_QSub, firstR, mkS_keep, keepT, List.find?, Nat.reduceBEq, Option.map_some, Option.getD_some]
  simp (maxSteps := 4000000) (disch := (first | with_reducible rfl | assumption | with_reducible exact WB_NB _ _ | (with_reducible refine nb_le ?_; omega) | (with_reducible refine nb16_le ?_; omega) | omega | (simp only [List.length_append, List.length_map, List.length_cons, List.length_nil, List.length_set, List.length_replicate, List.length_take, List.size_toArray]; omega))) [E_QSub, hp0, hp0', hq0, hq0', hr0, hr0', hs0, hs0', hp1, hp1', hq1, hq1', hr1, hr1', hs1, hs1', hc1, hc2, hc3, k1, k2, k3, Int.add_zero, Int.sub_zero]
  refine .again ?_
  simp only [E_QSub, firstR, mkS_keep, keepT, List.find?, Nat.reduceBEq, Option.map_some, Option.getD_some]
  simp (maxSteps := 4000000) (disch := (first | with_reducible rfl | assumption | with_reducible exact WB_NB _ _ | (with_reducible refine nb_le ?_; omega) | (with_reducible refine nb16_le ?_; omega) | omega | (simp only [List.length_append, List.length_map, List.length_cons, List.length_nil, List.length_set, List.length_replicate, List.length_take, List.size_toArray]; omega))) [E_QSub, hp0, hp0', hq0, hq0', hr0, hr0', hs0, hs0', hp1, hp1', hq1, hq1', hr1, hr1', hs1, hs1', hc1, hc2, hc3, k1, k2, k3, Int.add_zero, Int.sub_zero]
  refine .again ?_
  simp only [E_QSub, firstR, mkS_keep, keepT, List.find?, Nat.reduceBEq, Option.map_some, Option.getD_some]
  simp (maxSteps := 4000000) (disch := (first | with_reducible rfl | assumption | with_reducible exact WB_NB _ _ | (with_reducible refine nb_le ?_; omega) | (with_reducible refine nb16_le ?_; omega) | omega | (simp only [List.length_append, List.length_map, List.length_cons, List.length_nil, List.length_set, List.length_replicate, List.length_take, List.size_toArray]; omega))) [E_QSub, hp0, hp0', hq0, hq0', hr0, hr0', hs0, hs0', hp1, hp1', hq1, hq1', hr1, hr1', hs1, hs1', hc1, hc2, hc3, k1, k2, k3, Int.add_zero, Int.sub_zero]
  refine .again ?_
  simp only [E_QSub, firstR, mkS_keep, keepT, List.find?, Nat.reduceBEq, Option.map_some, Option.getD_some]
  simp (maxSteps := 4000000) (disch := (first | with_reducible rfl | assumption | with_reducible exact WB_NB _ _ | (with_reducible refine nb_le ?_; omega) | (with_reducible refine nb16_le ?_; omega) | omega | (simp only [List.length_append, List.length_map, List.length_cons, List.length_nil, List.length_set, List.length_replicate, List.length_take, List.size_toArray]; omega))) [E_QSub, hp0, hp0', hq0, hq0', hr0, hr0', hs0, hs0', hp1, hp1', hq1, hq1', hr1, hr1', hs1, hs1', hc1, hc2, hc3, k1, k2, k3, Int.add_zero, Int.sub_zero]
theorem sQSub : GoodS (137, QSub) := by
  intro xs r h
  simp only at h
  unfold QSub at h
  split at h
  · obtain ⟨a0, h0, h⟩ := Option.bind_eq_some_iff.1 h
    obtain ⟨a1, h1, h⟩ := Option.bind_eq_some_iff.1 h
    cases h
    obtain ⟨rfl, b0⟩ := quadD_out h0
    obtain ⟨rfl, b1⟩ := quadD_out h1
    exact .inl <| okW_ends (mkS_ok (alls_cons sXSub64 alls_nil)) mixed Tryz.func137 rfl (by kernel_rfl : Fits Tryz.prog E_QSub.ref E_QSub.dep Tryz.f137 = true) (run_QSub _ b0 _ b1)
  · cases h
attribute [simp] QSub
end Go.Proofs.YtofklpmlgfbmlaaGreat.ZRat
namespace Go.Proofs.YtofklpmlgfbmlaaGreat.ZRat
open Go.RowKit Go.Proofs.YtofklpmlgfbmlaaGreat.Wd
open Go Go.Proofs.YtofklpmlgfbmlaaGreat.Ab Go.Proofs Go.Proofs.YtofklpmlgfbmlaaGreat.Num Go.Proofs.YtofklpmlgfbmlaaGreat.ZRatP
set_option linter.unusedSimpArgs false
set_option linter.unusedVariables false
set_option maxHeartbeats 8000000
set_option maxRecDepth 100000
/-- A number of 128 bits, as two words. -/
def wideA (z : Int) : AV := .agg [.int .i64 (z / 18446744073709551616), .int .u64 (z % 18446744073709551616)]
def wideD : AV → Option Int
  | .agg [.int .i64 h, .int .u64 l] => if (-9223372036854775808 ≤ h ∧ h < 9223372036854775808) ∧ 0 ≤ l ∧ l < 18446744073709551616 then some (h * 18446744073709551616 + l) else none
  | _ => none
theorem wideD_out {x : AV} {z : Int} (h : wideD x = some z) : x = wideA z ∧ (-170141183460469231731687303715884105728 ≤ z ∧ z < 170141183460469231731687303715884105728) := by
  unfold wideD at h
  split at h
  · split at h
    · rename_i a b hc
      simp only [Option.some.injEq] at h
      unfold wideA
      have e1 : z / 18446744073709551616 = a := by omega
      have e2 : z % 18446744073709551616 = b := by omega
      exact ⟨by rw [e1, e2], by omega⟩
    · cases h
  · cases h
theorem wideD_A (z : Int) (hz : -170141183460469231731687303715884105728 ≤ z ∧ z < 170141183460469231731687303715884105728) : wideD (.agg [.int .i64 (z / 18446744073709551616), .int .u64 (z % 18446744073709551616)]) = some z := by
  simp only [wideD]
  rw [if_pos ⟨⟨by omega, by omega⟩, by omega, by omega⟩]
  congr 1; omega
def ptD : AV → Option (Int × Int)
  | .agg [.int .i64 x, .int .i64 y] => some (x, y)
  | _ => none
theorem ptD_out {v : AV} {x y : Int} (h : ptD v = some (x, y)) : v = .agg [.int .i64 x, .int .i64 y] := by
  unfold ptD at h
  split at h
  · simp only [Option.some.injEq, Prod.mk.injEq] at h; rw [h.1, h.2]
  · cases h
attribute [simp] ptD
/-- Whether a point can be. -/
def inP (x : Int) : Prop := -1099511627776 ≤ x ∧ x ≤ 1099511627776
instance (x : Int) : Decidable (inP x) := by unfold inP; infer_instance
def canP (x y : Int) : Prop := inP x ∧ inP y
instance (x y : Int) : Decidable (canP x y) := by unfold canP; infer_instance
def crossZ (ax ay bx bY cx cy : Int) : Int := (bx - ax) * (cy - ay) - (bY - ay) * (cx - ax)
def distZ (ax ay bx bY : Int) : Int := (bx - ax) * (bx - ax) + (bY - ay) * (bY - ay)
theorem mulB {x y : Int} {m n : Int} (hx : -m ≤ x ∧ x ≤ m) (hy : -n ≤ y ∧ y ≤ n) : -(m * n) ≤ x * y ∧ x * y ≤ m * n := by
  have h : (x * y).natAbs ≤ (m * n).natAbs := by
    rw [Int.natAbs_mul, Int.natAbs_mul]
    exact Nat.mul_le_mul (by omega) (by omega)
  have h0 : 0 ≤ m * n := Int.mul_nonneg (by omega) (by omega)
  omega
noncomputable def XAdd64 : List AV → Option AV
  | [x, y, c] => (unN .u64 x).bind fun a => (unN .u64 y).bind fun b => (unN .u64 c).bind fun d =>
    if 0 ≤ a ∧ 0 ≤ b ∧ 0 ≤ d ∧ d ≤ 1 then some (.tup [.int .u64 ((a + b + d) % 18446744073709551616), .int .u64 ((a + b + d) / 18446744073709551616)]) else none
  | _ => none
theorem sXAdd64 : GoodS (136, XAdd64) := by
  intro xs r h
  simp only at h
  unfold XAdd64 at h
  split at h
  · obtain ⟨a, h0, h⟩ := Option.bind_eq_some_iff.1 h
    obtain ⟨b, h1, h⟩ := Option.bind_eq_some_iff.1 h
    obtain ⟨d, h2, h⟩ := Option.bind_eq_some_iff.1 h
    split at h
    · rename_i hc
      cases h
      obtain rfl := unN_eq h0
      obtain rfl := unN_eq h1
      obtain rfl := unN_eq h2
      refine .inr ⟨rfl, fun S w args ha => ?_⟩
      obtain ⟨u, v, t, rfl, hu, hv, ht⟩ := args3 rfl ha
      simp only [V2, V1, P1] at hu hv ht
      subst hu hv ht
      refine ⟨.tuple #[.int .u64 ((a + b + d) % 18446744073709551616), .int .u64 ((a + b + d) / 18446744073709551616)], ?_, ?_⟩
      · show (callFunc 136 #[.int .u64 a, .int .u64 b, .int .u64 d]).run Tryz.prog w = _
        rw [run_callFunc_extern Tryz.func136 (by kernel_rfl) (by kernel_rfl) (by kernel_rfl) (e := add64Entry) (by kernel_rfl), run_add64 a b d hc.1 hc.2.1 (by omega) (by omega)]
        rfl
      · simp only [V3]
        refine ⟨_, rfl, rfl, fun j q hj => ?_⟩
        match j, hj with
        | 0, hj => simp at hj; subst hj; exact ⟨_, rfl, by simp only [V2, V1, P1]; rfl⟩
        | 1, hj => simp at hj; subst hj; exact ⟨_, rfl, by simp only [V2, V1, P1]; rfl⟩
    · cases h
  · cases h
attribute [simp] XAdd64
def laysMul_ren : Go.Shelf.Ren := ⟨fun | 264 => 97 | n => n, fun | 53 => 59 | 46 => 122 | n => n, fun | n => n⟩
theorem laysMul : Lays.n264 Tryz.prog laysMul_ren := { mixed := by kernel_rfl, f264 := Tryz.func97.trans (congrArg some (by kernel_rfl)), t46 := Tryz.underlying122, a46 := Tryz.isAgg122, z46 := Tryz.sizeOf122, v46 := Tryz.zeroValue122, t53 := Tryz.underlying59, a53 := Tryz.isAgg59, z53 := Tryz.sizeOf59, v53 := Tryz.zeroValue59 }
noncomputable def XMul64 : List AV → Option AV
  | [x, y] => (unN .u64 x).bind fun a => (unN .u64 y).bind fun b =>
    if (0 ≤ a ∧ a < 18446744073709551616) ∧ 0 ≤ b ∧ b < 18446744073709551616 then some (.tup [.int .u64 (a * b / 18446744073709551616), .int .u64 (a * b % 18446744073709551616)]) else none
  | _ => none
theorem sXMul64 : GoodS (97, XMul64) := by
  intro xs r h
  simp only at h
  unfold XMul64 at h
  split at h
  · obtain ⟨a, h0, h⟩ := Option.bind_eq_some_iff.1 h
    obtain ⟨b, h1, h⟩ := Option.bind_eq_some_iff.1 h
    split at h
    · rename_i hc
      cases h
      obtain rfl := unN_eq h0
      obtain rfl := unN_eq h1
      obtain ⟨a, rfl⟩ := Int.eq_ofNat_of_zero_le hc.1.1
      obtain ⟨b, rfl⟩ := Int.eq_ofNat_of_zero_le hc.2.1
      refine .inl ⟨⟨Tryz.f97, Tryz.func97, rfl, by decide +kernel⟩, fun S w args hS ha => ?_⟩
      obtain ⟨h1, h2⟩ := ha
      obtain ⟨u, hu, vu⟩ := h2 0 _ rfl
      obtain ⟨v, hv, vv⟩ := h2 1 _ rfl
      have : args = [u, v] := by
        match args, h1, hu, hv with
        | [a', b'], _, hu, hv => simp at hu hv; rw [hu, hv]
      subst this
      simp only [V2, V1, P1] at vu vv
      subst vu vv
      refine (Any.bits_Mul64 laysMul a b (by omega) (by omega) w).mono ?_
      rintro e w' ⟨rfl, rfl⟩
      refine ⟨_, S, rfl, ?_, ?_⟩
      · simp only [V3]
        refine ⟨_, rfl, rfl, fun j q hj => ?_⟩
        match j, hj with
        | 0, hj => simp at hj; subst hj; exact ⟨_, rfl, by simp only [V2, V1, P1]; rfl⟩
        | 1, hj => simp at hj; subst hj; exact ⟨_, rfl, by simp only [V2, V1, P1]; rfl⟩
      · exact ⟨rfl, rfl, rfl, Nat.le_refl _, fun _ _ => rfl, fun _ h => h, fun _ h => .inl h, hS⟩
    · cases h
  · cases h
attribute [simp] XMul64
noncomputable def WdMul : List AV → Option AV
  | [x0, x1] => (unN .i64 x0).bind fun a0 => (unN .i64 x1).bind fun a1 => if (-9223372036854775808 ≤ a0 ∧ a0 < 9223372036854775808) ∧ -9223372036854775808 ≤ a1 ∧ a1 < 9223372036854775808 then some (wideA (a0 * a1)) else none
  | _ => none
noncomputable def E_WdMul : Env := mkS [(97, XMul64)] [] []
theorem run_WdMul (a0 : Int) (a1 : Int) (hc : (-9223372036854775808 ≤ a0 ∧ a0 < 9223372036854775808) ∧ -9223372036854775808 ≤ a1 ∧ a1 < 9223372036854775808) : AEnds E_WdMul (finW Tryz.prog Tryz.f52.results) 0 [.code (Tryz.f52.body.getD .skip)] (startA Tryz.f52 [.int .i64 a0, .int .i64 a1] [] []) (wideA (a0 * a1)) := by
  simp only [Tryz.f52, Option.getD_some, startA]
  have hu : ∀ x : Int, IntKind.u64.wrap x = x % 18446744073709551616 := fun x => IntKind.wrap_u64 x
  have hx : a0 % 18446744073709551616 = if a0 < 0 then a0 + 18446744073709551616 else a0 := by split <;> omega
  have hy : a1 % 18446744073709551616 = if a1 < 0 then a1 + 18446744073709551616 else a1 := by split <;> omega
  have ux : 0 ≤ a0 % 18446744073709551616 := by omega
  have ux' : a0 % 18446744073709551616 < 18446744073709551616 := by omega
  have uy : 0 ≤ a1 % 18446744073709551616 := by omega
  have uy' : a1 % 18446744073709551616 < 18446744073709551616 := by omega
  have hb := mulB (x := a0) (y := a1) (m := 9223372036854775808) (n := 9223372036854775808) (by omega) (by omega)
  have hs : ∀ z : Int, -9223372036854775808 ≤ z → z < 9223372036854775808 → ∀ t : Int, (t - z) % 18446744073709551616 = 0 → wrap64 t = z := fun z h1 h2 t ht => by unfold wrap64; omega
  simp only [wideA]
  by_cases h0 : a0 < 0
  · by_cases h1 : a1 < 0
    · rw [if_pos h0] at hx
      rw [if_pos h1] at hy
      have hp : (a0 % 18446744073709551616) * (a1 % 18446744073709551616) = a0 * a1 + a0 * 18446744073709551616 + a1 * 18446744073709551616 + 340282366920938463463374607431768211456 := by rw [hx, hy]; grind
      have e1 : (a0 % 18446744073709551616) * (a1 % 18446744073709551616) % 18446744073709551616 = a0 * a1 % 18446744073709551616 := by rw [hp]; omega
      have e2 : wrap64 ((((a0 % 18446744073709551616) * (a1 % 18446744073709551616)) / 18446744073709551616 - a1 - a0) % 18446744073709551616) = a0 * a1 / 18446744073709551616 := by
        refine hs _ (by omega) (by omega) _ ?_
        rw [hp]; omega
      clear hp hx hy hb hs
      simp (maxSteps := 4000000) (disch := (first | with_reducible rfl | assumption | with_reducible exact WB_NB _ _ | (with_reducible refine nb_le ?_; omega) | (with_reducible refine nb16_le ?_; omega) | omega | (simp only [List.length_append, List.length_map, List.length_cons, List.length_nil, List.length_set, List.length_replicate, List.length_take, List.size_toArray]; omega))) [E_WdMul, hu, ux, ux', uy, uy', h0, h1, e1, e2]
    · rw [if_pos h0] at hx
      rw [if_neg h1] at hy
      have hp : (a0 % 18446744073709551616) * (a1 % 18446744073709551616) = a0 * a1 + a1 * 18446744073709551616 := by rw [hx, hy]; grind
      have e1 : (a0 % 18446744073709551616) * (a1 % 18446744073709551616) % 18446744073709551616 = a0 * a1 % 18446744073709551616 := by rw [hp]; omega
      have e2 : wrap64 ((((a0 % 18446744073709551616) * (a1 % 18446744073709551616)) / 18446744073709551616 - a1) % 18446744073709551616) = a0 * a1 / 18446744073709551616 := by
        refine hs _ (by omega) (by omega) _ ?_
        rw [hp]; omega
      clear hp hx hy hb hs
      simp (maxSteps := 4000000) (disch := (first | with_reducible rfl | assumption | with_reducible exact WB_NB _ _ | (with_reducible refine nb_le ?_; omega) | (with_reducible refine nb16_le ?_; omega) | omega | (simp only [List.length_append, List.length_map, List.length_cons, List.length_nil, List.length_set, List.length_replicate, List.length_take, List.size_toArray]; omega))) [E_WdMul, hu, ux, ux', uy, uy', h0, h1, e1, e2]
  · by_cases h1 : a1 < 0
    · rw [if_neg h0] at hx
      rw [if_pos h1] at hy
      have hp : (a0 % 18446744073709551616) * (a1 % 18446744073709551616) = a0 * a1 + a0 * 18446744073709551616 := by rw [hx, hy]; grind
      have e1 : (a0 % 18446744073709551616) * (a1 % 18446744073709551616) % 18446744073709551616 = a0 * a1 % 18446744073709551616 := by rw [hp]; omega
      have e2 : wrap64 ((((a0 % 18446744073709551616) * (a1 % 18446744073709551616)) / 18446744073709551616 - a0) % 18446744073709551616) = a0 * a1 / 18446744073709551616 := by
        refine hs _ (by omega) (by omega) _ ?_
        rw [hp]; omega
      clear hp hx hy hb hs
      simp (maxSteps := 4000000) (disch := (first | with_reducible rfl | assumption | with_reducible exact WB_NB _ _ | (with_reducible refine nb_le ?_; omega) | (with_reducible refine nb16_le ?_; omega) | omega | (simp only [List.length_append, List.length_map, List.length_cons, List.length_nil, List.length_set, List.length_replicate, List.length_take, List.size_toArray]; omega))) [E_WdMul, hu, ux, ux', uy, uy', h0, h1, e1, e2]
    · rw [if_neg h0] at hx
      rw [if_neg h1] at hy
      have e2 : wrap64 (((a0 % 18446744073709551616) * (a1 % 18446744073709551616)) / 18446744073709551616) = a0 * a1 / 18446744073709551616 := by
        refine hs _ (by omega) (by omega) _ ?_
        rw [hx, hy]; omega
      have e1 : (a0 % 18446744073709551616) * (a1 % 18446744073709551616) % 18446744073709551616 = a0 * a1 % 18446744073709551616 := by rw [hx, hy]
      clear hx hy hb hs
      simp (maxSteps := 4000000) (disch := (first | with_reducible rfl | assumption | with_reducible exact WB_NB _ _ | (with_reducible refine nb_le ?_; omega) | (with_reducible refine nb16_le ?_; omega) | omega | (simp only [List.length_append, List.length_map, List.length_cons, List.length_nil, List.length_set, List.length_replicate, List.length_take, List.size_toArray]; omega))) [E_WdMul, hu, ux, ux', uy, uy', h0, h1, e1, e2]
theorem sWdMul : GoodS (52, WdMul) := by
  intro xs r h
  simp only at h
  unfold WdMul at h
  split at h
  · obtain ⟨a0, h0, h⟩ := Option.bind_eq_some_iff.1 h
    obtain ⟨a1, h1, h⟩ := Option.bind_eq_some_iff.1 h
    split at h
    · rename_i hc
      cases h
      obtain rfl := unN_eq h0
      obtain rfl := unN_eq h1
      exact .inl <| okW_ends (mkS_ok (alls_cons sXMul64 alls_nil)) mixed Tryz.func52 rfl (by kernel_rfl : Fits Tryz.prog E_WdMul.ref E_WdMul.dep Tryz.f52 = true) (run_WdMul _ _ hc)
    · cases h
  · cases h
attribute [simp] WdMul
noncomputable def Wdadd : List AV → Option AV
  | [x0, x1] => (wideD x0).bind fun a0 => (wideD x1).bind fun a1 => if -170141183460469231731687303715884105728 ≤ a0 + a1 ∧ a0 + a1 < 170141183460469231731687303715884105728 then some (wideA (a0 + a1)) else none
  | _ => none
noncomputable def E_Wdadd : Env := mkS [(136, XAdd64)] [] []
theorem run_Wdadd (a0 : Int) (b0 : -170141183460469231731687303715884105728 ≤ a0 ∧ a0 < 170141183460469231731687303715884105728) (a1 : Int) (b1 : -170141183460469231731687303715884105728 ≤ a1 ∧ a1 < 170141183460469231731687303715884105728) (hc : -170141183460469231731687303715884105728 ≤ a0 + a1 ∧ a0 + a1 < 170141183460469231731687303715884105728) : AEnds E_Wdadd (finW Tryz.prog Tryz.f163.results) 0 [.code (Tryz.f163.body.getD .skip)] (startA Tryz.f163 [wideA a0, wideA a1] [] []) (wideA (a0 + a1)) := by
  simp only [Tryz.f163, Option.getD_some, startA]
  have hu : ∀ x : Int, IntKind.u64.wrap x = x % 18446744073709551616 := fun x => IntKind.wrap_u64 x
  have hs : ∀ z : Int, -9223372036854775808 ≤ z → z < 9223372036854775808 → ∀ t : Int, (t - z) % 18446744073709551616 = 0 → wrap64 t = z := fun z h1 h2 t ht => by unfold wrap64; omega
  simp only [wideA]
  have q1 : 0 ≤ a0 % 18446744073709551616 := by omega
  have q2 : a0 % 18446744073709551616 < 18446744073709551616 := by omega
  have q3 : 0 ≤ a1 % 18446744073709551616 := by omega
  have q4 : a1 % 18446744073709551616 < 18446744073709551616 := by omega
  have q5 : 0 ≤ a0 / 18446744073709551616 % 18446744073709551616 := by omega
  have q6 : a0 / 18446744073709551616 % 18446744073709551616 < 18446744073709551616 := by omega
  have q7 : 0 ≤ a1 / 18446744073709551616 % 18446744073709551616 := by omega
  have q8 : a1 / 18446744073709551616 % 18446744073709551616 < 18446744073709551616 := by omega
  have c1 : 0 ≤ (a0 % 18446744073709551616 + a1 % 18446744073709551616) / 18446744073709551616 := by omega
  have c2 : (a0 % 18446744073709551616 + a1 % 18446744073709551616) / 18446744073709551616 ≤ 1 := by omega
  have e2 : wrap64 ((a0 / 18446744073709551616 % 18446744073709551616 + a1 / 18446744073709551616 % 18446744073709551616 + (a0 % 18446744073709551616 + a1 % 18446744073709551616) / 18446744073709551616) % 18446744073709551616) = (a0 + a1) / 18446744073709551616 := hs _ (by omega) (by omega) _ (by omega)
  have e1 : (a0 % 18446744073709551616 + a1 % 18446744073709551616) % 18446744073709551616 = (a0 + a1) % 18446744073709551616 := by omega
  have w0 := wideD_A a0 b0
  clear hs
  simp (maxSteps := 4000000) (disch := (first | with_reducible rfl | assumption | with_reducible exact WB_NB _ _ | (with_reducible refine nb_le ?_; omega) | (with_reducible refine nb16_le ?_; omega) | omega | (simp only [List.length_append, List.length_map, List.length_cons, List.length_nil, List.length_set, List.length_replicate, List.length_take, List.size_toArray]; omega))) [E_Wdadd, hu, q1, q2, q3, q4, q5, q6, q7, q8, c1, c2, e1, e2]
theorem sWdadd : GoodS (163, Wdadd) := by
  intro xs r h
  simp only at h
  unfold Wdadd at h
  split at h
  · obtain ⟨a0, h0, h⟩ := Option.bind_eq_some_iff.1 h
    obtain ⟨a1, h1, h⟩ := Option.bind_eq_some_iff.1 h
    split at h
    · rename_i hc
      cases h
      obtain ⟨rfl, b0⟩ := wideD_out h0
      obtain ⟨rfl, b1⟩ := wideD_out h1
      exact .inl <| okW_ends (mkS_ok (alls_cons sXAdd64 alls_nil)) mixed Tryz.func163 rfl (by kernel_rfl : Fits Tryz.prog E_Wdadd.ref E_Wdadd.dep Tryz.f163 = true) (run_Wdadd _ b0 _ b1 hc)
    · cases h
  · cases h
attribute [simp] Wdadd
noncomputable def Wdsub : List AV → Option AV
  | [x0, x1] => (wideD x0).bind fun a0 => (wideD x1).bind fun a1 => if -170141183460469231731687303715884105728 ≤ a0 - a1 ∧ a0 - a1 < 170141183460469231731687303715884105728 then some (wideA (a0 - a1)) else none
  | _ => none
noncomputable def E_Wdsub : Env := mkS [(168, XSub64)] [] []
theorem run_Wdsub (a0 : Int) (b0 : -170141183460469231731687303715884105728 ≤ a0 ∧ a0 < 170141183460469231731687303715884105728) (a1 : Int) (b1 : -170141183460469231731687303715884105728 ≤ a1 ∧ a1 < 170141183460469231731687303715884105728) (hc : -170141183460469231731687303715884105728 ≤ a0 - a1 ∧ a0 - a1 < 170141183460469231731687303715884105728) : AEnds E_Wdsub (finW Tryz.prog Tryz.f162.results) 0 [.code (Tryz.f162.body.getD .skip)] (startA Tryz.f162 [wideA a0, wideA a1] [] []) (wideA (a0 - a1)) := by
  simp only [Tryz.f162, Option.getD_some, startA]
  have hu : ∀ x : Int, IntKind.u64.wrap x = x % 18446744073709551616 := fun x => IntKind.wrap_u64 x
  have hs : ∀ z : Int, -9223372036854775808 ≤ z → z < 9223372036854775808 → ∀ t : Int, (t - z) % 18446744073709551616 = 0 → wrap64 t = z := fun z h1 h2 t ht => by unfold wrap64; omega
  simp only [wideA]
  have q1 : 0 ≤ a0 % 18446744073709551616 := by omega
  have q2 : a0 % 18446744073709551616 < 18446744073709551616 := by omega
  have q3 : 0 ≤ a1 % 18446744073709551616 := by omega
  have q4 : a1 % 18446744073709551616 < 18446744073709551616 := by omega
  have q5 : 0 ≤ a0 / 18446744073709551616 % 18446744073709551616 := by omega
  have q6 : a0 / 18446744073709551616 % 18446744073709551616 < 18446744073709551616 := by omega
  have q7 : 0 ≤ a1 / 18446744073709551616 % 18446744073709551616 := by omega
  have q8 : a1 / 18446744073709551616 % 18446744073709551616 < 18446744073709551616 := by omega
  have e1 : (a0 % 18446744073709551616 - a1 % 18446744073709551616) % 18446744073709551616 = (a0 - a1) % 18446744073709551616 := by omega
  generalize hc : (if a0 % 18446744073709551616 < a1 % 18446744073709551616 then (1 : Int) else 0) = c
  have c0 : (c = 0 ∧ a1 % 18446744073709551616 ≤ a0 % 18446744073709551616) ∨ (c = 1 ∧ a0 % 18446744073709551616 < a1 % 18446744073709551616) := by rw [← hc]; split <;> omega
  have c1 : 0 ≤ c := by omega
  have c2 : c ≤ 1 := by omega
  have e2 : wrap64 ((a0 / 18446744073709551616 % 18446744073709551616 - a1 / 18446744073709551616 % 18446744073709551616 - c) % 18446744073709551616) = (a0 - a1) / 18446744073709551616 := hs _ (by omega) (by omega) _ (by omega)
  have w0 := wideD_A a0 b0
  clear hs
  simp (maxSteps := 4000000) (disch := (first | with_reducible rfl | assumption | with_reducible exact WB_NB _ _ | (with_reducible refine nb_le ?_; omega) | (with_reducible refine nb16_le ?_; omega) | omega | (simp only [List.length_append, List.length_map, List.length_cons, List.length_nil, List.length_set, List.length_replicate, List.length_take, List.size_toArray]; omega))) [E_Wdsub, hu, q1, q2, q3, q4, q5, q6, q7, q8, c1, c2, e1, e2, hc]
theorem sWdsub : GoodS (162, Wdsub) := by
  intro xs r h
  simp only at h
  unfold Wdsub at h
  split at h
  · obtain ⟨a0, h0, h⟩ := Option.bind_eq_some_iff.1 h
    obtain ⟨a1, h1, h⟩ := Option.bind_eq_some_iff.1 h
    split at h
    · rename_i hc
      cases h
      obtain ⟨rfl, b0⟩ := wideD_out h0
      obtain ⟨rfl, b1⟩ := wideD_out h1
      exact .inl <| okW_ends (mkS_ok (alls_cons sXSub64 alls_nil)) mixed Tryz.func162 rfl (by kernel_rfl : Fits Tryz.prog E_Wdsub.ref E_Wdsub.dep Tryz.f162 = true) (run_Wdsub _ b0 _ b1 hc)
    · cases h
  · cases h
attribute [simp] Wdsub
end Go.Proofs.YtofklpmlgfbmlaaGreat.ZRat
namespace Go.Proofs.YtofklpmlgfbmlaaGreat.ZRat
open Go.RowKit Go.Proofs.YtofklpmlgfbmlaaGreat.Wd
open Go Go.Proofs.YtofklpmlgfbmlaaGreat.Ab Go.Proofs Go.Proofs.YtofklpmlgfbmlaaGreat.Num Go.Proofs.YtofklpmlgfbmlaaGreat.ZRatP
set_option linter.unusedSimpArgs false
set_option linter.unusedVariables false
set_option maxHeartbeats 8000000
set_option maxRecDepth 100000
noncomputable def WdAdd : List AV → Option AV
  | [x0, x1] => (wideD x0).bind fun a0 => (wideD x1).bind fun a1 => if -170141183460469231731687303715884105728 ≤ a0 + a1 ∧ a0 + a1 < 170141183460469231731687303715884105728 then some (wideA (a0 + a1)) else none
  | _ => none
noncomputable def E_WdAdd : Env := mkS [(163, Wdadd)] [] []
theorem run_WdAdd (a0 : Int) (b0 : -170141183460469231731687303715884105728 ≤ a0 ∧ a0 < 170141183460469231731687303715884105728) (a1 : Int) (b1 : -170141183460469231731687303715884105728 ≤ a1 ∧ a1 < 170141183460469231731687303715884105728) (hc : -170141183460469231731687303715884105728 ≤ a0 + a1 ∧ a0 + a1 < 170141183460469231731687303715884105728) : AEnds E_WdAdd (finW Tryz.prog Tryz.f125.results) 0 [.code (Tryz.f125.body.getD .skip)] (startA Tryz.f125 [wideA a0, wideA a1] [] []) (wideA (a0 + a1)) := by
  simp only [Tryz.f125, Option.getD_some, startA]
  have w0 := wideD_A a0 b0
  have w1 := wideD_A a1 b1
  simp only [wideA]
  simp (maxSteps := 4000000) (disch := (first | with_reducible rfl | assumption | with_reducible exact WB_NB _ _ | (with_reducible refine nb_le ?_; omega) | (with_reducible refine nb16_le ?_; omega) | omega | (simp only [List.length_append, List.length_map, List.length_cons, List.length_nil, List.length_set, List.length_replicate, List.length_take, List.size_toArray]; omega))) [E_WdAdd, w0, w1, hc, wideA]
theorem sWdAdd : GoodS (125, WdAdd) := by
  intro xs r h
  simp only at h
  unfold WdAdd at h
  split at h
  · obtain ⟨a0, h0, h⟩ := Option.bind_eq_some_iff.1 h
    obtain ⟨a1, h1, h⟩ := Option.bind_eq_some_iff.1 h
    split at h
    · rename_i hc
      cases h
      obtain ⟨rfl, b0⟩ := wideD_out h0
      obtain ⟨rfl, b1⟩ := wideD_out h1
      exact .inl <| okW_ends (mkS_ok (alls_cons sWdadd alls_nil)) mixed Tryz.func125 rfl (by kernel_rfl : Fits Tryz.prog E_WdAdd.ref E_WdAdd.dep Tryz.f125 = true) (run_WdAdd _ b0 _ b1 hc)
    · cases h
  · cases h
attribute [simp] WdAdd
noncomputable def WdSub : List AV → Option AV
  | [x0, x1] => (wideD x0).bind fun a0 => (wideD x1).bind fun a1 => if -170141183460469231731687303715884105728 ≤ a0 - a1 ∧ a0 - a1 < 170141183460469231731687303715884105728 then some (wideA (a0 - a1)) else none
  | _ => none
noncomputable def E_WdSub : Env := mkS [(162, Wdsub)] [] []
theorem run_WdSub (a0 : Int) (b0 : -170141183460469231731687303715884105728 ≤ a0 ∧ a0 < 170141183460469231731687303715884105728) (a1 : Int) (b1 : -170141183460469231731687303715884105728 ≤ a1 ∧ a1 < 170141183460469231731687303715884105728) (hc : -170141183460469231731687303715884105728 ≤ a0 - a1 ∧ a0 - a1 < 170141183460469231731687303715884105728) : AEnds E_WdSub (finW Tryz.prog Tryz.f124.results) 0 [.code (Tryz.f124.body.getD .skip)] (startA Tryz.f124 [wideA a0, wideA a1] [] []) (wideA (a0 - a1)) := by
  simp only [Tryz.f124, Option.getD_some, startA]
  have w0 := wideD_A a0 b0
  have w1 := wideD_A a1 b1
  simp only [wideA]
  simp (maxSteps := 4000000) (disch := (first | with_reducible rfl | assumption | with_reducible exact WB_NB _ _ | (with_reducible refine nb_le ?_; omega) | (with_reducible refine nb16_le ?_; omega) | omega | (simp only [List.length_append, List.length_map, List.length_cons, List.length_nil, List.length_set, List.length_replicate, List.length_take, List.size_toArray]; omega))) [E_WdSub, w0, w1, hc, wideA]
theorem sWdSub : GoodS (124, WdSub) := by
  intro xs r h
  simp only at h
  unfold WdSub at h
  split at h
  · obtain ⟨a0, h0, h⟩ := Option.bind_eq_some_iff.1 h
    obtain ⟨a1, h1, h⟩ := Option.bind_eq_some_iff.1 h
    split at h
    · rename_i hc
      cases h
      obtain ⟨rfl, b0⟩ := wideD_out h0
      obtain ⟨rfl, b1⟩ := wideD_out h1
      exact .inl <| okW_ends (mkS_ok (alls_cons sWdsub alls_nil)) mixed Tryz.func124 rfl (by kernel_rfl : Fits Tryz.prog E_WdSub.ref E_WdSub.dep Tryz.f124 = true) (run_WdSub _ b0 _ b1 hc)
    · cases h
  · cases h
attribute [simp] WdSub
noncomputable def WdNeg : List AV → Option AV
  | [x0] => (wideD x0).bind fun a0 => if -170141183460469231731687303715884105728 ≤ -a0 ∧ -a0 < 170141183460469231731687303715884105728 then some (wideA (-a0)) else none
  | _ => none
noncomputable def E_WdNeg : Env := mkS [(162, Wdsub)] [] []
theorem run_WdNeg (a0 : Int) (b0 : -170141183460469231731687303715884105728 ≤ a0 ∧ a0 < 170141183460469231731687303715884105728) (hc : -170141183460469231731687303715884105728 ≤ -a0 ∧ -a0 < 170141183460469231731687303715884105728) : AEnds E_WdNeg (finW Tryz.prog Tryz.f167.results) 0 [.code (Tryz.f167.body.getD .skip)] (startA Tryz.f167 [wideA a0] [] []) (wideA (-a0)) := by
  simp only [Tryz.f167, Option.getD_some, startA]
  have w0 := wideD_A a0 b0
  have w1 := wideD_A 0 (by omega)
  have hc' : -170141183460469231731687303715884105728 ≤ 0 - a0 ∧ 0 - a0 < 170141183460469231731687303715884105728 := by omega
  simp only [show (0 : Int) / 18446744073709551616 = 0 from rfl, show (0 : Int) % 18446744073709551616 = 0 from rfl] at w1
  simp only [wideA]
  simp (maxSteps := 4000000) (disch := (first | with_reducible rfl | assumption | with_reducible exact WB_NB _ _ | (with_reducible refine nb_le ?_; omega) | (with_reducible refine nb16_le ?_; omega) | omega | (simp only [List.length_append, List.length_map, List.length_cons, List.length_nil, List.length_set, List.length_replicate, List.length_take, List.size_toArray]; omega))) [E_WdNeg, w0, w1, hc, hc', wideA, Int.zero_sub]
theorem sWdNeg : GoodS (167, WdNeg) := by
  intro xs r h
  simp only at h
  unfold WdNeg at h
  split at h
  · obtain ⟨a0, h0, h⟩ := Option.bind_eq_some_iff.1 h
    split at h
    · rename_i hc
      cases h
      obtain ⟨rfl, b0⟩ := wideD_out h0
      exact .inl <| okW_ends (mkS_ok (alls_cons sWdsub alls_nil)) mixed Tryz.func167 rfl (by kernel_rfl : Fits Tryz.prog E_WdNeg.ref E_WdNeg.dep Tryz.f167 = true) (run_WdNeg _ b0 hc)
    · cases h
  · cases h
attribute [simp] WdNeg
noncomputable def Wdsign : List AV → Option AV
  | [x0] => (wideD x0).bind fun a0 => some (.int .i64 a0.sign)
  | _ => none
noncomputable def E_Wdsign : Env := mkS [] [] []
theorem run_Wdsign (a0 : Int) (b0 : -170141183460469231731687303715884105728 ≤ a0 ∧ a0 < 170141183460469231731687303715884105728) : AEnds E_Wdsign (finW Tryz.prog Tryz.f161.results) 0 [.code (Tryz.f161.body.getD .skip)] (startA Tryz.f161 [wideA a0] [] []) (.int .i64 a0.sign) := by
  simp only [Tryz.f161, Option.getD_some, startA]
  simp only [wideA]
  by_cases h0 : a0 < 0
  · rw [Int.sign_eq_neg_one_of_neg h0]
    have h1 : a0 / 18446744073709551616 < 0 := by omega
    simp (maxSteps := 4000000) (disch := (first | with_reducible rfl | assumption | with_reducible exact WB_NB _ _ | (with_reducible refine nb_le ?_; omega) | (with_reducible refine nb16_le ?_; omega) | omega | (simp only [List.length_append, List.length_map, List.length_cons, List.length_nil, List.length_set, List.length_replicate, List.length_take, List.size_toArray]; omega))) [E_Wdsign, h1]
  · have h1 : ¬ a0 / 18446744073709551616 < 0 := by omega
    by_cases h2 : a0 = 0
    · subst h2
      simp (maxSteps := 4000000) (disch := (first | with_reducible rfl | assumption | with_reducible exact WB_NB _ _ | (with_reducible refine nb_le ?_; omega) | (with_reducible refine nb16_le ?_; omega) | omega | (simp only [List.length_append, List.length_map, List.length_cons, List.length_nil, List.length_set, List.length_replicate, List.length_take, List.size_toArray]; omega))) [E_Wdsign]
    · rw [Int.sign_eq_one_of_pos (by omega)]
      by_cases h3 : a0 / 18446744073709551616 = 0
      · have h4 : ¬ a0 % 18446744073709551616 = 0 := by omega
        simp (maxSteps := 4000000) (disch := (first | with_reducible rfl | assumption | with_reducible exact WB_NB _ _ | (with_reducible refine nb_le ?_; omega) | (with_reducible refine nb16_le ?_; omega) | omega | (simp only [List.length_append, List.length_map, List.length_cons, List.length_nil, List.length_set, List.length_replicate, List.length_take, List.size_toArray]; omega))) [E_Wdsign, h1, h3, h4]
      · simp (maxSteps := 4000000) (disch := (first | with_reducible rfl | assumption | with_reducible exact WB_NB _ _ | (with_reducible refine nb_le ?_; omega) | (with_reducible refine nb16_le ?_; omega) | omega | (simp only [List.length_append, List.length_map, List.length_cons, List.length_nil, List.length_set, List.length_replicate, List.length_take, List.size_toArray]; omega))) [E_Wdsign, h1, h3]
theorem sWdsign : GoodS (161, Wdsign) := by
  intro xs r h
  simp only at h
  unfold Wdsign at h
  split at h
  · obtain ⟨a0, h0, h⟩ := Option.bind_eq_some_iff.1 h
    cases h
    obtain ⟨rfl, b0⟩ := wideD_out h0
    exact .inl <| okW_ends (mkS_ok alls_nil) mixed Tryz.func161 rfl (by kernel_rfl : Fits Tryz.prog E_Wdsign.ref E_Wdsign.dep Tryz.f161 = true) (run_Wdsign _ b0)
  · cases h
attribute [simp] Wdsign
noncomputable def WdSign : List AV → Option AV
  | [x0] => (wideD x0).bind fun a0 => some (.int .i64 a0.sign)
  | _ => none
noncomputable def E_WdSign : Env := mkS [(161, Wdsign)] [] []
theorem run_WdSign (a0 : Int) (b0 : -170141183460469231731687303715884105728 ≤ a0 ∧ a0 < 170141183460469231731687303715884105728) : AEnds E_WdSign (finW Tryz.prog Tryz.f123.results) 0 [.code (Tryz.f123.body.getD .skip)] (startA Tryz.f123 [wideA a0] [] []) (.int .i64 a0.sign) := by
  simp only [Tryz.f123, Option.getD_some, startA]
  have w0 := wideD_A a0 b0
  simp only [wideA]
  simp (maxSteps := 4000000) (disch := (first | with_reducible rfl | assumption | with_reducible exact WB_NB _ _ | (with_reducible refine nb_le ?_; omega) | (with_reducible refine nb16_le ?_; omega) | omega | (simp only [List.length_append, List.length_map, List.length_cons, List.length_nil, List.length_set, List.length_replicate, List.length_take, List.size_toArray]; omega))) [E_WdSign, w0]
theorem sWdSign : GoodS (123, WdSign) := by
  intro xs r h
  simp only at h
  unfold WdSign at h
  split at h
  · obtain ⟨a0, h0, h⟩ := Option.bind_eq_some_iff.1 h
    cases h
    obtain ⟨rfl, b0⟩ := wideD_out h0
    exact .inl <| okW_ends (mkS_ok (alls_cons sWdsign alls_nil)) mixed Tryz.func123 rfl (by kernel_rfl : Fits Tryz.prog E_WdSign.ref E_WdSign.dep Tryz.f123 = true) (run_WdSign _ b0)
  · cases h
attribute [simp] WdSign
end Go.Proofs.YtofklpmlgfbmlaaGreat.ZRat
