/- What the printed functions of nat come to, told of numbers: taking off a multiple, giving back. -/
import Derived.Test.YtafhcchjjlbojaaNum
import Derived.Test.YtafhcchjjlbojaaZNatgOff
namespace Go.Proofs.Ytafhcchjjlbojaa.ZNatP
open Go.RowKit Go.Proofs.YtafhcchjjlbojaaW.PrintWords Go.Proofs.YtafhcchjjlbojaaW.PrintLast Go.Proofs.YtafhcchjjlbojaaW.PrintMore Go.Proofs.Ytafhcchjjlbojaa.Num Go.Proofs.Ytafhcchjjlbojaa.ZNat
set_option linter.unusedVariables false
set_option linter.unusedSimpArgs false

theorem off_word (x p d : Nat) (hx : x < 4294967296) (hp : p < 18446744073709551616) (hd : d ≤ 1) :
    ∃ z d' : Nat, z < 4294967296 ∧ d' ≤ 1 ∧ z + p % 4294967296 + d = x + 4294967296 * d' ∧
      (IntKind.u64.wrap ((IntKind.u64.wrap ((IntKind.u64.wrap (x : Int)) - ((p : Int) % 4294967296))) - (d : Int))) % 4294967296 = (z : Int) ∧
      (IntKind.u64.wrap ((IntKind.u64.wrap ((IntKind.u64.wrap (x : Int)) - ((p : Int) % 4294967296))) - (d : Int))) / 9223372036854775808 = (d' : Int) := by
  rw [u64w, u64w, u64w]
  rcases Nat.lt_or_ge x (p % 4294967296 + d) with h | h
  · exact ⟨x + 4294967296 - p % 4294967296 - d, 1, by omega, by omega, by omega, by omega, by omega⟩
  · exact ⟨x - p % 4294967296 - d, 0, by omega, by omega, by omega, by omega, by omega⟩
theorem off_step (b i P Q A c d y x z d' p : Nat) (h : P + Q = A + b ^ i * (c + d)) (hz : z + p % b + d = x + b * d') (q : Nat) (hp : p = c + q * y) :
    (P + b ^ i * z) + (Q + q * (b ^ i * y)) = (A + b ^ i * x) + b ^ (i + 1) * (p / b + d') := by
  have h1 : P + b ^ i * z + (Q + q * (b ^ i * y)) = A + b ^ i * (c + d + z + q * y) := by
    have : b ^ i * (c + d + z + q * y) = b ^ i * (c + d) + b ^ i * z + q * (b ^ i * y) := by grind
    rw [this]
    omega
  have h2 : c + d + z + q * y = x + b * (p / b + d') := by
    have := Nat.div_add_mod p b
    rw [Nat.mul_add]
    omega
  rw [h1, h2, Nat.mul_add, Nat.pow_succ, Nat.mul_assoc, Nat.add_assoc]
theorem off_l0 (v : List Int) (q : Nat) (hv : WB 4294967296 v) (hq : q < 4294967296) : ∀ (R P : List Int) (n i c d A : Nat), P.length = i → n = i + R.length → n < 35184372088832 → WB 4294967296 P → WB 4294967296 R → c < 4294967296 → (v.length < i → c = 0) → d ≤ 1 →
    Aside0 (VB 4294967296 P + q * VB 4294967296 (v.take i) = A + 4294967296 ^ i * (c + d)) →
    ∃ (z : List Int) (c' d' : Nat), z.length = n ∧ WB 4294967296 z ∧ d' ≤ 1 ∧ (v.length < n → c' = 0) ∧
      VB 4294967296 z + q * VB 4294967296 (v.take n) = A + 4294967296 ^ i * VB 4294967296 R + 4294967296 ^ n * (c' + d') ∧
      Ev (fun k => nat_off.l0 k (P ++ R) v (q : Int) (c : Int) (d : Int) (n : Int) (i : Int)) ((d' : Int) != 0, z) := by
  intro R
  induction R with
  | nil =>
    intro P n i c d A hP hn hb hWP hWR hc hc0 hd h
    have hni : n = i := by simpa using hn
    subst hni
    refine ⟨P, c, d, hP, hWP, hd, hc0, by simpa [VB] using h.out, ?_⟩
    refine Ev.step (f := fun _ => some ((d : Int) != 0, P)) (fun k => ?_) (Ev.now _)
    show nat_off.l0 (k + 1) (P ++ []) v (q : Int) (c : Int) (d : Int) (n : Int) (n : Int) = _
    simp only [nat_off.l0]
    rw [if_neg (by omega), List.append_nil]
  | cons x R ih =>
    intro P n i c d A hP hn hb hWP hWR hc hc0 hd h
    obtain ⟨hx, hWR'⟩ := WB_cons.1 hWR
    obtain ⟨x, rfl⟩ := Int.eq_ofNat_of_zero_le hx.1
    have hlen : (P ++ (x : Int) :: R).length = n := by rw [hn]; simp [hP]
    have hrd : rd (P ++ (x : Int) :: R) (i : Int) = (x : Int) := by rw [← hP]; exact rd_mid P _ R
    have hst : ∀ w : Int, (P ++ (x : Int) :: R).set i w = (P ++ [w]) ++ R := by
      intro w
      rw [← hP, set_mid P _ _ R, List.append_assoc, List.singleton_append]
    have HRD := Aside0.mk hrd
    have HST := Aside0.mk hst
    clear hrd hst
    have E2 := Aside0.mk (wsucc i (by simp at hn; omega))
    have hin : i < n := by rw [hn]; simp
    have hpow : A + 4294967296 ^ i * VB 4294967296 ((x : Int) :: R) = (A + 4294967296 ^ i * x) + 4294967296 ^ (i + 1) * VB 4294967296 R := by
      simp only [VB, Int.toNat_natCast]
      rw [Nat.mul_add, Nat.pow_succ, Nat.mul_assoc, Nat.add_assoc]
    rw [hpow]
    have HPW := Aside0.mk hpow
    clear hpow
    by_cases hiv : i < v.length
    · have rv := WB_rd hv i hiv
      obtain ⟨y, hy⟩ := Int.eq_ofNat_of_zero_le rv.1
      rw [hy] at rv
      have hqy : q * y ≤ 4294967295 * 4294967295 := Nat.mul_le_mul (by omega) (by omega)
      have hp : IntKind.u64.wrap ((c : Int) + IntKind.u64.wrap ((q : Int) * IntKind.u64.wrap (y : Int))) = ((c + q * y : Nat) : Int) := by
        rw [u64in (y : Int) (by omega) (by omega), ← Int.natCast_mul]
        generalize q * y = g at hqy ⊢
        rw [u64in (g : Int) (by omega) (by omega), u64in ((c : Int) + (g : Int)) (by omega) (by omega)]
        omega
      have HP := Aside0.mk hp
      clear hp
      obtain ⟨z, d', hz1, hz2, hz3, hz4, hz5⟩ := off_word x (c + q * y) d (by omega) (by omega) hd
      have hstep := off_step 4294967296 i _ _ A c d y x z d' _ h.out hz3 q rfl
      rw [← Nat.mul_add] at hstep
      have htk := VB_take_succ 4294967296 v i hiv
      rw [hy, Int.toNat_natCast] at htk
      rw [← htk] at hstep
      have HZ4 := Aside0.mk hz4
      have HZ5 := Aside0.mk hz5
      clear hz4 hz5
      obtain ⟨z', c', dd, g1, g2, g3, g4, g5, g6⟩ := ih (P ++ [(z : Int)]) n (i + 1) ((c + q * y) / 4294967296) d' (A + 4294967296 ^ i * x) (by simp [hP]) (by rw [hn]; simp; omega) hb (WB_append.2 ⟨hWP, WB_cons.2 ⟨by omega, WB_nil _⟩⟩) hWR' (by omega) (by omega) hz2 ⟨by rw [VB_snoc, hP, Int.toNat_natCast]; exact hstep⟩
      refine ⟨z', c', dd, g1, g2, g3, g4, g5, Ev.step (fun k => ?_) g6⟩
      show nat_off.l0 (k + 1) (P ++ (x : Int) :: R) v (q : Int) (c : Int) (d : Int) (n : Int) (i : Int) = _
      simp only [nat_off.l0]
      rw [if_pos (by omega), if_pos (by omega), if_pos (by omega), if_pos (by omega), HRD.out, hy, HP.out, HZ4.out, HZ5.out, ndiv32, Int.toNat_natCast, HST.out, E2.out]
    · obtain ⟨z, d', hz1, hz2, hz3, hz4, hz5⟩ := off_word x c d (by omega) (by omega) hd
      have hstep := off_step 4294967296 i _ _ A c d 0 x z d' _ h.out hz3 q (by simp)
      rw [Nat.mul_zero, Nat.mul_zero, Nat.add_zero] at hstep
      have htk : v.take (i + 1) = v.take i := by rw [List.take_of_length_le (by omega), List.take_of_length_le (by omega)]
      rw [← htk] at hstep
      have HZ4 := Aside0.mk hz4
      have HZ5 := Aside0.mk hz5
      clear hz4 hz5
      obtain ⟨z', c', dd, g1, g2, g3, g4, g5, g6⟩ := ih (P ++ [(z : Int)]) n (i + 1) (c / 4294967296) d' (A + 4294967296 ^ i * x) (by simp [hP]) (by rw [hn]; simp; omega) hb (WB_append.2 ⟨hWP, WB_cons.2 ⟨by omega, WB_nil _⟩⟩) hWR' (by omega) (by omega) hz2 ⟨by rw [VB_snoc, hP, Int.toNat_natCast]; exact hstep⟩
      refine ⟨z', c', dd, g1, g2, g3, g4, g5, Ev.step (fun k => ?_) g6⟩
      show nat_off.l0 (k + 1) (P ++ (x : Int) :: R) v (q : Int) (c : Int) (d : Int) (n : Int) (i : Int) = _
      simp only [nat_off.l0]
      rw [if_pos (by omega), if_neg (by omega), if_pos (by omega), if_pos (by omega), HRD.out, HZ4.out, HZ5.out, ndiv32, Int.toNat_natCast, HST.out, E2.out]
theorem off_f (u v : List Int) (q : Nat) (hu : WB 4294967296 u) (hv : WB 4294967296 v) (hq : q < 4294967296) (hl : v.length < u.length) (hb : u.length < 35184372088832) :
    ∃ (z : List Int) (d : Nat), z.length = u.length ∧ WB 4294967296 z ∧ d ≤ 1 ∧ VB 4294967296 z + q * VB 4294967296 v = VB 4294967296 u + 4294967296 ^ u.length * d ∧
      Ev (fun k => nat_off.f k u v (q : Int)) ((d : Int) != 0, z) := by
  obtain ⟨z, c, d, h1, h2, h3, h4, h5, h6⟩ := off_l0 v q hv hq u [] u.length 0 0 0 0 rfl (by simp) hb (WB_nil _) hu (by omega) (by omega) (by omega) ⟨by simp [VB]⟩
  refine ⟨z, d, h1, h2, h3, ?_, h6⟩
  rw [h4 hl, List.take_of_length_le (by omega)] at h5
  simpa using h5
theorem back_l0 (v : List Int) (hv : WB 4294967296 v) : ∀ (R P : List Int) (n i c A : Nat), P.length = i → n = i + R.length → n < 35184372088832 → WB 4294967296 P → WB 4294967296 R → c ≤ 1 →
    Aside0 (VB 4294967296 P + 4294967296 ^ i * c = A + VB 4294967296 (v.take i)) →
    ∃ (z : List Int) (c' : Nat), z.length = n ∧ WB 4294967296 z ∧ c' ≤ 1 ∧
      VB 4294967296 z + 4294967296 ^ n * c' = A + 4294967296 ^ i * VB 4294967296 R + VB 4294967296 (v.take n) ∧
      Ev (fun k => nat_back.l0 k (P ++ R) v (c : Int) (n : Int) (i : Int)) z := by
  intro R
  induction R with
  | nil =>
    intro P n i c A hP hn hb hWP hWR hc h
    have hni : n = i := by simpa using hn
    subst hni
    refine ⟨P, c, hP, hWP, hc, by simpa [VB] using h.out, ?_⟩
    refine Ev.step (f := fun _ => some P) (fun k => ?_) (Ev.now _)
    show nat_back.l0 (k + 1) (P ++ []) v (c : Int) (n : Int) (n : Int) = _
    simp only [nat_back.l0]
    rw [if_neg (by omega), List.append_nil]
  | cons x R ih =>
    intro P n i c A hP hn hb hWP hWR hc h
    obtain ⟨hx, hWR'⟩ := WB_cons.1 hWR
    obtain ⟨x, rfl⟩ := Int.eq_ofNat_of_zero_le hx.1
    have hlen : (P ++ (x : Int) :: R).length = n := by rw [hn]; simp [hP]
    have hrd : rd (P ++ (x : Int) :: R) (i : Int) = (x : Int) := by rw [← hP]; exact rd_mid P _ R
    have hst : ∀ w : Int, (P ++ (x : Int) :: R).set i w = (P ++ [w]) ++ R := by
      intro w
      rw [← hP, set_mid P _ _ R, List.append_assoc, List.singleton_append]
    have HRD := Aside0.mk hrd
    have HST := Aside0.mk hst
    clear hrd hst
    have E2 := Aside0.mk (wsucc i (by simp at hn; omega))
    have hin : i < n := by rw [hn]; simp
    have hpow : A + 4294967296 ^ i * VB 4294967296 ((x : Int) :: R) = (A + 4294967296 ^ i * x) + 4294967296 ^ (i + 1) * VB 4294967296 R := by
      simp only [VB, Int.toNat_natCast]
      rw [Nat.mul_add, Nat.pow_succ, Nat.mul_assoc, Nat.add_assoc]
    rw [hpow]
    have HPW := Aside0.mk hpow
    clear hpow
    by_cases hiv : i < v.length
    · have rv := WB_rd hv i hiv
      obtain ⟨y, hy⟩ := Int.eq_ofNat_of_zero_le rv.1
      rw [hy] at rv
      have hp : IntKind.u64.wrap (IntKind.u64.wrap ((c : Int) + IntKind.u64.wrap (x : Int)) + IntKind.u64.wrap (y : Int)) = ((c + x + y : Nat) : Int) := by
        rw [u64in (y : Int) (by omega) (by omega), u64in (x : Int) (by omega) (by omega), u64in ((c : Int) + (x : Int)) (by omega) (by omega), u64in ((c : Int) + (x : Int) + (y : Int)) (by omega) (by omega)]
        omega
      have HP := Aside0.mk hp
      clear hp
      have htk := VB_take_succ 4294967296 v i hiv
      rw [hy, Int.toNat_natCast] at htk
      have hstep : VB 4294967296 (P ++ [(((c + x + y) % 4294967296 : Nat) : Int)]) + 4294967296 ^ (i + 1) * ((c + x + y) / 4294967296) = A + 4294967296 ^ i * x + VB 4294967296 (v.take (i + 1)) := by
        rw [VB_snoc, hP, Int.toNat_natCast, carry_step, htk, Nat.mul_add, Nat.mul_add]
        have := h.out
        omega
      obtain ⟨z', c', g1, g2, g3, g5, g6⟩ := ih (P ++ [(((c + x + y) % 4294967296 : Nat) : Int)]) n (i + 1) ((c + x + y) / 4294967296) (A + 4294967296 ^ i * x) (by simp [hP]) (by rw [hn]; simp; omega) hb (WB_append.2 ⟨hWP, WB_cons.2 ⟨by omega, WB_nil _⟩⟩) hWR' (by omega) ⟨hstep⟩
      refine ⟨z', c', g1, g2, g3, g5, Ev.step (fun k => ?_) g6⟩
      show nat_back.l0 (k + 1) (P ++ (x : Int) :: R) v (c : Int) (n : Int) (i : Int) = _
      simp only [nat_back.l0]
      rw [if_pos (by omega), if_pos (by omega), if_pos (by omega), if_pos (by omega), HRD.out, hy, HP.out, ndiv32, nmod32, Int.toNat_natCast, HST.out, E2.out]
    · have hp : IntKind.u64.wrap ((c : Int) + IntKind.u64.wrap (x : Int)) = ((c + x : Nat) : Int) := by
        rw [u64in (x : Int) (by omega) (by omega), u64in ((c : Int) + (x : Int)) (by omega) (by omega)]
        omega
      have HP := Aside0.mk hp
      clear hp
      have htk : v.take (i + 1) = v.take i := by rw [List.take_of_length_le (by omega), List.take_of_length_le (by omega)]
      have hstep : VB 4294967296 (P ++ [(((c + x) % 4294967296 : Nat) : Int)]) + 4294967296 ^ (i + 1) * ((c + x) / 4294967296) = A + 4294967296 ^ i * x + VB 4294967296 (v.take (i + 1)) := by
        rw [VB_snoc, hP, Int.toNat_natCast, carry_step, htk, Nat.mul_add]
        have := h.out
        omega
      obtain ⟨z', c', g1, g2, g3, g5, g6⟩ := ih (P ++ [(((c + x) % 4294967296 : Nat) : Int)]) n (i + 1) ((c + x) / 4294967296) (A + 4294967296 ^ i * x) (by simp [hP]) (by rw [hn]; simp; omega) hb (WB_append.2 ⟨hWP, WB_cons.2 ⟨by omega, WB_nil _⟩⟩) hWR' (by omega) ⟨hstep⟩
      refine ⟨z', c', g1, g2, g3, g5, Ev.step (fun k => ?_) g6⟩
      show nat_back.l0 (k + 1) (P ++ (x : Int) :: R) v (c : Int) (n : Int) (i : Int) = _
      simp only [nat_back.l0]
      rw [if_pos (by omega), if_pos (by omega), if_pos (by omega), if_neg (by omega), HRD.out, HP.out, ndiv32, nmod32, Int.toNat_natCast, HST.out, E2.out]
theorem back_f (u v : List Int) (hu : WB 4294967296 u) (hv : WB 4294967296 v) (hl : v.length ≤ u.length) (hb : u.length < 35184372088832) :
    ∃ (z : List Int) (c : Nat), z.length = u.length ∧ WB 4294967296 z ∧ c ≤ 1 ∧ VB 4294967296 z + 4294967296 ^ u.length * c = VB 4294967296 u + VB 4294967296 v ∧
      Ev (fun k => nat_back.f k u v) z := by
  obtain ⟨z, c, h1, h2, h3, h5, h6⟩ := back_l0 v hv u [] u.length 0 0 0 rfl (by simp) hb (WB_nil _) hu (by omega) ⟨by simp [VB]⟩
  refine ⟨z, c, h1, h2, h3, ?_, h6⟩
  rw [List.take_of_length_le (l := v) (by omega)] at h5
  simpa using h5
end Go.Proofs.Ytafhcchjjlbojaa.ZNatP
