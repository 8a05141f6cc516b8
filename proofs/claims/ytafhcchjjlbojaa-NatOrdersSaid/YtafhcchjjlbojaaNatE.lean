/- What the printed functions of nat come to, told of numbers: the guess of a quotient's word. -/
import Derived.Test.YtafhcchjjlbojaaNum
import Derived.Test.YtafhcchjjlbojaaZNatgCore
namespace Go.Proofs.Ytafhcchjjlbojaa.ZNatP
open Go.RowKit Go.Proofs.YtafhcchjjlbojaaW.PrintWords Go.Proofs.YtafhcchjjlbojaaW.PrintLast Go.Proofs.YtafhcchjjlbojaaW.PrintMore Go.Proofs.Ytafhcchjjlbojaa.Num Go.Proofs.Ytafhcchjjlbojaa.ZNat
set_option linter.unusedVariables false
set_option linter.unusedSimpArgs false

/-- q times the divisor is too much, if its two highest words say so. -/
theorem guess_over (b W U0 V0 u2 two top next q r : Nat) (hU : U0 < W) (ht : q * top + r = two) (h : r * b + u2 < q * next) :
    (U0 + W * (u2 + b * two)) / (V0 + W * (next + b * top)) < q := by
  have hq : 0 < q := by
    rcases Nat.eq_zero_or_pos q with rfl | h1
    · simp at h
    · exact h1
  have hV2 : 0 < next := by
    rcases Nat.eq_zero_or_pos next with rfl | h1
    · simp at h
    · exact h1
  rw [Nat.div_lt_iff_lt_mul (by have : 0 < W * (next + b * top) := Nat.mul_pos (by omega) (by omega); omega)]
  have h1 : u2 + b * two + 1 ≤ q * (next + b * top) := by
    rw [← ht]
    have : q * (next + b * top) = q * next + b * (q * top) := by grind
    rw [this, Nat.mul_add]
    have : r * b = b * r := Nat.mul_comm _ _
    omega
  clear ht h hV2
  generalize next + b * top = X at *
  generalize u2 + b * two = T at *
  have h2 := Nat.mul_le_mul_left W h1
  have h3 : W * (q * X) ≤ q * (V0 + W * X) := by
    have : q * (V0 + W * X) = q * V0 + W * (q * X) := by grind
    rw [this]
    exact Nat.le_add_left _ _
  have h4 : W * (T + 1) = W * T + W := by rw [Nat.mul_add, Nat.mul_one]
  rw [h4] at h2
  exact Nat.lt_of_lt_of_le (by rw [Nat.add_comm]; exact Nat.add_lt_add_left hU _) (Nat.le_trans h2 h3)
/-- If they don't, q is at most one too great. -/
theorem guess_near (b W U0 V0 u2 two top next q r : Nat) (hb : 2 ≤ b) (hV : V0 < W) (htop : b ≤ 2 * top) (hq : q < b) (ht : q * top + r = two) (h : q * next ≤ r * b + u2) :
    q ≤ (U0 + W * (u2 + b * two)) / (V0 + W * (next + b * top)) + 1 := by
  rcases q with _ | p
  · exact Nat.zero_le _
  have hV2 : p ≤ next + b * top := by
    have : 2 * top ≤ b * top := Nat.mul_le_mul_right _ hb
    omega
  have hpos : 0 < V0 + W * (next + b * top) := by
    have h0 : 0 < b * top := Nat.mul_pos (by omega) (by omega)
    have : 0 < W * (next + b * top) := Nat.mul_pos (by omega) (by omega)
    omega
  have h1 : (p + 1) * (next + b * top) ≤ u2 + b * two := by
    rw [← ht]
    have e : (p + 1) * (next + b * top) = (p + 1) * next + b * ((p + 1) * top) := by grind
    rw [e, Nat.mul_add b]
    have : r * b = b * r := Nat.mul_comm _ _
    omega
  have h2 : p + p * (next + b * top) ≤ u2 + b * two := by
    rw [Nat.add_mul, Nat.one_mul] at h1
    omega
  have h3 := Nat.mul_le_mul_left W h2
  have h4 : p * (V0 + W * (next + b * top)) ≤ W * (p + p * (next + b * top)) := by
    have e1 : p * (V0 + W * (next + b * top)) = p * V0 + W * (p * (next + b * top)) := by grind
    have e2 : W * (p + p * (next + b * top)) = p * W + W * (p * (next + b * top)) := by grind
    have e3 : p * V0 ≤ p * W := Nat.mul_le_mul_left _ (by omega)
    omega
  have h5 : p ≤ (U0 + W * (u2 + b * two)) / (V0 + W * (next + b * top)) := by
    rw [Nat.le_div_iff_mul_le hpos]
    omega
  omega
theorem guess_first (b W U0 V0 u2 two top next : Nat) (hb : 2 ≤ b) (hU : U0 < W) (hu : u2 < b) (htop : 0 < top) :
    (U0 + W * (u2 + b * two)) / (V0 + W * (next + b * top)) ≤ two / top := by
  have hpos : 0 < V0 + W * (next + b * top) := by
    have h0 : 0 < b * top := Nat.mul_pos (by omega) (by omega)
    have : 0 < W * (next + b * top) := Nat.mul_pos (by omega) (by omega)
    omega
  have h : (U0 + W * (u2 + b * two)) / (V0 + W * (next + b * top)) < two / top + 1 := by
    rw [Nat.div_lt_iff_lt_mul hpos]
    have h1 : two + 1 ≤ (two / top + 1) * top := by
      have := Nat.div_add_mod two top
      have h2 := Nat.mod_lt two htop
      rw [Nat.add_mul, Nat.one_mul, Nat.mul_comm (two / top)]
      omega
    generalize two / top = q at *
    have h2 : W * (b * (two + 1)) ≤ W * (b * ((q + 1) * top)) := Nat.mul_le_mul_left _ (Nat.mul_le_mul_left _ h1)
    have h3 : (q + 1) * (V0 + W * (next + b * top)) = (q + 1) * V0 + W * ((q + 1) * next) + W * (b * ((q + 1) * top)) := by grind
    have h4 : W * (u2 + b * two) + W ≤ W * (b * (two + 1)) := by
      have : u2 + b * two + 1 ≤ b * (two + 1) := by rw [Nat.mul_add]; omega
      have := Nat.mul_le_mul_left W this
      rw [Nat.mul_add W, Nat.mul_one] at this
      omega
    omega
  omega
theorem guess_top (b W U0 V0 u0 u1 u2 top next : Nat) (hV : V0 < W) (hn : next < b) (h : U0 + W * (u2 + b * (u0 * b + u1)) < b * (V0 + W * (next + b * top))) : u0 ≤ top := by
  rcases Nat.lt_or_ge top u0 with h1 | h1
  · exfalso
    have h2 : W * (b * ((top + 1) * b)) ≤ W * (b * (u0 * b)) := Nat.mul_le_mul_left _ (Nat.mul_le_mul_left _ (Nat.mul_le_mul_right _ h1))
    have h3 : W * (u2 + b * (u0 * b + u1)) = W * u2 + W * (b * u1) + W * (b * (u0 * b)) := by grind
    have h4 : b * (V0 + W * (next + b * top)) ≤ W * (b * ((top + 1) * b)) := by
      have h5 : V0 + W * (next + b * top) ≤ W * ((top + 1) * b) := by
        have : next + b * top + 1 ≤ (top + 1) * b := by rw [Nat.add_mul, Nat.mul_comm top]; omega
        have := Nat.mul_le_mul_left W this
        rw [Nat.mul_add W, Nat.mul_one] at this
        omega
      have := Nat.mul_le_mul_left b h5
      rw [show W * (b * ((top + 1) * b)) = b * (W * ((top + 1) * b)) from by grind]
      exact this
    omega
  · exact h1
/-- The loop: q goes down to the quotient, or to one more. -/
theorem guess_l0 (u : List Int) (m : Nat) (hm : 2 ≤ m) (hmm : m < 35184372088832) (hl : u.length = m + 1) (W U0 V0 u2 two top next : Nat) (h2 : rd u ((m - 2 : Nat) : Int) = (u2 : Int)) (hu2 : u2 < 4294967296) (hnext : next < 4294967296) (ht1 : 2147483648 ≤ top) (ht2 : top < 4294967296)
    (hU : U0 < W) (hV : V0 < W) (Q : Nat) (hQ : Aside0 (Q = (U0 + W * (u2 + 4294967296 * two)) / (V0 + W * (next + 4294967296 * top)))) (hQb : Q < 4294967296) : ∀ (q r : Nat), r < 4294967296 → Aside0 (q * top + r = two) → Q ≤ q → q ≤ 4294967297 → (q = 4294967297 → r + top < 4294967296) →
    ∃ q' : Nat, q' < 4294967296 ∧ Q ≤ q' ∧ q' ≤ Q + 1 ∧ Ev (fun k => nat_guess.l0 k u (top : Int) (next : Int) (m : Int) (q : Int) (r : Int)) (q' : Int) := by
  intro q
  induction q with
  | zero =>
    intro r hr ht hQq hq1 hq2
    have e : wrap64 ((m : Int) - 2) = ((m - 2 : Nat) : Int) := by rw [w64in ((m : Int) - 2) (by omega) (by omega)]; omega
    have E := Aside0.mk e
    clear e
    refine ⟨0, by omega, hQq, by omega, ?_⟩
    refine Ev.step (f := fun k => nat_guess.j1 k u (top : Int) (next : Int) (m : Int) ((0 : Nat) : Int) (r : Int) false) (fun k => ?_) ?_
    · show nat_guess.l0 (k + 1) u (top : Int) (next : Int) (m : Int) ((0 : Nat) : Int) (r : Int) = _
      simp only [nat_guess.l0]
      rw [if_neg (by omega), E.out, if_pos (by omega), if_pos (by omega), h2, or32 r u2 hr hu2]
      congr 1
      rw [show ((0 : Nat) : Int) * (next : Int) = 0 from by omega, u64in 0 (by omega) (by omega)]
      exact decide_eq_false (by omega)
    · refine Ev.step (f := fun _ => some ((0 : Nat) : Int)) (fun k => ?_) (Ev.now _)
      show nat_guess.j1 (k + 1) u _ _ _ _ _ false = _
      rw [nat_guess.j1]
      exact if_neg Bool.false_ne_true
  | succ q ih =>
    intro r hr ht hQq hq1 hq2
    have e : wrap64 ((m : Int) - 2) = ((m - 2 : Nat) : Int) := by rw [w64in ((m : Int) - 2) (by omega) (by omega)]; omega
    have E := Aside0.mk e
    clear e
    have hrt : IntKind.u64.wrap ((r : Int) + (top : Int)) = ((r + top : Nat) : Int) := by rw [u64in ((r : Int) + (top : Int)) (by omega) (by omega)]; omega
    have hq1' : IntKind.u64.wrap (((q + 1 : Nat) : Int) - 1) = (q : Int) := by rw [u64in (((q + 1 : Nat) : Int) - 1) (by omega) (by omega)]; omega
    have HRT := Aside0.mk hrt
    have HQ1 := Aside0.mk hq1'
    clear hrt hq1'
    have ht' : q * top + (r + top) = two := by
      have := ht.out
      rw [Nat.add_mul, Nat.one_mul] at this
      omega
    -- what follows, if q + 1 is told too great
    have down : Q < q + 1 → ∃ q' : Nat, q' < 4294967296 ∧ Q ≤ q' ∧ q' ≤ Q + 1 ∧ Ev (fun k => nat_guess.j1 k u (top : Int) (next : Int) (m : Int) ((q + 1 : Nat) : Int) (r : Int) true) (q' : Int) := by
      intro hlt
      by_cases hbr : 4294967296 ≤ r + top
      · have hqb : q < 4294967296 := by omega
        refine ⟨q, hqb, by omega, ?_, ?_⟩
        · rw [hQ.out]
          refine guess_near 4294967296 W U0 V0 u2 two top next q (r + top) (by omega) hV (by omega) hqb ht' ?_
          have h1 : q * next ≤ 4294967295 * 4294967295 := Nat.mul_le_mul (by omega) (by omega)
          have h2 : 4294967296 * 4294967296 ≤ (r + top) * 4294967296 := Nat.mul_le_mul_right _ hbr
          omega
        · refine Ev.step (f := fun _ => some (q : Int)) (fun k => ?_) (Ev.now _)
          show nat_guess.j1 (k + 1) u _ _ _ _ _ true = _
          simp only [nat_guess.j1]
          rw [if_pos trivial, HRT.out, HQ1.out, if_pos (by omega)]
      · obtain ⟨q', h1, h2', h3, h4⟩ := ih (r + top) (by omega) ⟨ht'⟩ (by omega) (by omega) (by omega)
        refine ⟨q', h1, h2', h3, Ev.step (fun k => ?_) h4⟩
        show nat_guess.j1 (k + 1) u _ _ _ _ _ true = _
        simp only [nat_guess.j1]
        rw [if_pos trivial, HRT.out, HQ1.out, if_neg (by omega)]
    by_cases hge : 4294967296 ≤ q + 1
    · obtain ⟨q', h1, h2', h3, h4⟩ := down (by omega)
      refine ⟨q', h1, h2', h3, Ev.step (fun k => ?_) h4⟩
      show nat_guess.l0 (k + 1) u (top : Int) (next : Int) (m : Int) ((q + 1 : Nat) : Int) (r : Int) = _
      simp only [nat_guess.l0]
      rw [if_pos (by omega)]
    · have hqn : (q + 1) * next < 18446744073709551616 := by
        have : (q + 1) * next ≤ 4294967295 * 4294967295 := Nat.mul_le_mul (by omega) (by omega)
        omega
      have hw : IntKind.u64.wrap (((q + 1 : Nat) : Int) * (next : Int)) = (((q + 1) * next : Nat) : Int) := by
        rw [← Int.natCast_mul]
        exact u64in _ (Int.natCast_nonneg _) (by generalize (q + 1) * next = g at hqn ⊢; omega)
      have HW := Aside0.mk hw
      clear hw
      have hstep : ∀ k, nat_guess.l0 (k + 1) u (top : Int) (next : Int) (m : Int) ((q + 1 : Nat) : Int) (r : Int) = nat_guess.j1 k u (top : Int) (next : Int) (m : Int) ((q + 1 : Nat) : Int) (r : Int) (decide (r * 4294967296 + u2 < (q + 1) * next)) := by
        intro k
        simp only [nat_guess.l0]
        rw [if_neg (by omega), E.out, if_pos (by omega), if_pos (by omega), h2, or32 r u2 hr hu2, HW.out]
        congr 1
        exact decide_eq_decide.2 (by generalize (q + 1) * next = g; omega)
      by_cases hgt : r * 4294967296 + u2 < (q + 1) * next
      · have hlt := guess_over 4294967296 W U0 V0 u2 two top next (q + 1) r hU ht.out hgt
        rw [← hQ.out] at hlt
        obtain ⟨q', h1, h2', h3, h4⟩ := down hlt
        refine ⟨q', h1, h2', h3, Ev.step (fun k => ?_) h4⟩
        rw [hstep, decide_eq_true hgt]
      · refine ⟨q + 1, by omega, hQq, ?_, ?_⟩
        · rw [hQ.out]
          exact guess_near 4294967296 W U0 V0 u2 two top next (q + 1) r (by omega) hV (by omega) (by omega) ht.out (by omega)
        · refine Ev.step (f := fun k => nat_guess.j1 k u (top : Int) (next : Int) (m : Int) ((q + 1 : Nat) : Int) (r : Int) false) (fun k => ?_) ?_
          · rw [hstep, decide_eq_false hgt]
          · refine Ev.step (f := fun _ => some ((q + 1 : Nat) : Int)) (fun k => ?_) (Ev.now _)
            show nat_guess.j1 (k + 1) u _ _ _ _ _ false = _
            rw [nat_guess.j1]
            exact if_neg Bool.false_ne_true
theorem guess_f (u v : List Int) (m : Nat) (hm : 2 ≤ m) (hmm : m < 35184372088832) (hl : u.length = m + 1) (hv : v.length = m) (hWu : WB 4294967296 u) (hWv : WB 4294967296 v) (top next : Nat) (ht : rd v ((m - 1 : Nat) : Int) = (top : Int)) (hn : rd v ((m - 2 : Nat) : Int) = (next : Int)) (ht1 : 2147483648 ≤ top)
    (hlt : Aside0 (VB 4294967296 u < 4294967296 * VB 4294967296 v)) :
    ∃ q : Nat, q < 4294967296 ∧ VB 4294967296 u / VB 4294967296 v ≤ q ∧ q ≤ VB 4294967296 u / VB 4294967296 v + 1 ∧ Ev (fun k => nat_guess.f k u (top : Int) (next : Int)) (q : Int) := by
  have r0 := WB_rd hWu m (by omega)
  have r1 := WB_rd hWu (m - 1) (by omega)
  have r2 := WB_rd hWu (m - 2) (by omega)
  have rt := WB_rd hWv (m - 1) (by omega)
  have rn := WB_rd hWv (m - 2) (by omega)
  obtain ⟨u0, h0⟩ := Int.eq_ofNat_of_zero_le r0.1
  obtain ⟨u1, h1⟩ := Int.eq_ofNat_of_zero_le r1.1
  obtain ⟨u2, h2⟩ := Int.eq_ofNat_of_zero_le r2.1
  rw [h0] at r0
  rw [h1] at r1
  rw [h2] at r2
  rw [ht] at rt
  rw [hn] at rn
  have hu : VB 4294967296 u = VB 4294967296 (u.take (m - 2)) + 4294967296 ^ (m - 2) * (u2 + 4294967296 * (u0 * 4294967296 + u1)) := by
    rw [VB_split 4294967296 u (m - 2) (by omega), VB_drop_rd _ _ (m - 2) (by omega), h2, show m - 2 + 1 = m - 1 from by omega, VB_drop_rd _ _ (m - 1) (by omega), h1, show m - 1 + 1 = m from by omega, VB_drop_rd _ _ m (by omega), h0, List.drop_of_length_le (by omega)]
    simp only [Int.toNat_natCast, VB, Nat.mul_zero, Nat.add_zero]
    rw [Nat.mul_comm u0, Nat.add_comm u1]
  have hvv : VB 4294967296 v = VB 4294967296 (v.take (m - 2)) + 4294967296 ^ (m - 2) * (next + 4294967296 * top) := by
    rw [VB_split 4294967296 v (m - 2) (by omega), VB_drop_rd _ _ (m - 2) (by omega), hn, show m - 2 + 1 = m - 1 from by omega, VB_drop_rd _ _ (m - 1) (by omega), ht, List.drop_of_length_le (by omega)]
    simp only [Int.toNat_natCast, VB, Nat.mul_zero, Nat.add_zero]
  have hU := VB_lt (by omega) (WB_take hWu (m - 2))
  have hV := VB_lt (by omega) (WB_take hWv (m - 2))
  rw [show (u.take (m - 2)).length = m - 2 from by rw [List.length_take]; omega] at hU
  rw [show (v.take (m - 2)).length = m - 2 from by rw [List.length_take]; omega] at hV
  have hlt' := hlt.out
  clear hlt
  have hQb : VB 4294967296 u / VB 4294967296 v < 4294967296 := by
    rw [Nat.div_lt_iff_lt_mul]
    · exact hlt'
    · rcases Nat.eq_zero_or_pos (VB 4294967296 v) with h | h
      · rw [h] at hlt'; simp at hlt'
      · exact h
  rw [hu, hvv] at hlt' hQb ⊢
  have HU := Aside0.mk hU
  have HV := Aside0.mk hV
  have HLT := Aside0.mk hlt'
  clear hU hV hlt' hu hvv
  generalize VB 4294967296 (u.take (m - 2)) = U0 at *
  generalize VB 4294967296 (v.take (m - 2)) = V0 at *
  generalize 4294967296 ^ (m - 2) = W at *
  have hu0 : u0 ≤ top := guess_top 4294967296 W U0 V0 u0 u1 u2 top next HV.out (by omega) HLT.out
  have htwo : u0 * 4294967296 + u1 ≤ top * 4294967296 + 4294967295 := by omega
  have hfirst := guess_first 4294967296 W U0 V0 u2 (u0 * 4294967296 + u1) top next (by omega) HU.out (by omega) (by omega)
  have hdm := Nat.div_add_mod (u0 * 4294967296 + u1) top
  have hml := Nat.mod_lt (u0 * 4294967296 + u1) (show 0 < top by omega)
  have hor := or32 u0 u1 (by omega) (by omega)
  have HOR := Aside0.mk hor
  clear hor
  obtain ⟨two, htw⟩ : ∃ t : Nat, t = u0 * 4294967296 + u1 := ⟨_, rfl⟩
  rw [← htw] at htwo hfirst hdm hml HOR hQb ⊢
  have hq1 : two / top ≤ 4294967297 := by
    have : two / top < 4294967298 := by
      rw [Nat.div_lt_iff_lt_mul (by omega)]
      omega
    omega
  have hq2 : two / top = 4294967297 → two % top + top < 4294967296 := by
    intro h
    rw [h] at hdm
    omega
  have hqr : two / top * top + two % top = two := by rw [Nat.mul_comm]; exact hdm
  have HQR := Aside0.mk hqr
  clear hqr hdm
  have hdN := tdivN two top
  have hmN := tmodN two top
  generalize hgq : two / top = q0 at *
  generalize hgr : two % top = r0' at *
  clear hgq hgr
  obtain ⟨q', g1, g2, g3, g4⟩ := guess_l0 u m hm hmm hl W U0 V0 u2 two top next h2 (by omega) (by omega) ht1 (by omega) HU.out HV.out _ ⟨rfl⟩ hQb q0 r0' (by omega) HQR hfirst hq1 hq2
  refine ⟨q', g1, g2, g3, ?_⟩
  unfold nat_guess.f
  refine Ev.congr (fun k => ?_) g4
  have e1 : wrap64 ((u.length : Int) - 1) = ((m : Nat) : Int) := by rw [hl, wpred _ (by omega)]; omega
  have e2 : wrap64 ((m : Int) - 1) = ((m - 1 : Nat) : Int) := by rw [wpred _ (by omega)]; omega
  have E1 := Aside0.mk e1
  have E2 := Aside0.mk e2
  clear e1 e2
  rw [E1.out, E2.out, if_pos (by omega), if_pos (by omega), if_pos (by omega), if_pos (by omega), if_neg (by omega), h0, h1, u64in (u0 : Int) (by omega) (by omega), HOR.out, hdN, hmN, u64in (q0 : Int) (by omega) (by omega)]
end Go.Proofs.Ytafhcchjjlbojaa.ZNatP
