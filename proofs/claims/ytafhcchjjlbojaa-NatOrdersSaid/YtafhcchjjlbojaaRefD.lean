/- What the printed functions of the reference for nat come to, told of numbers: the quotient and the rest, bit by bit. -/
import Derived.Test.YtafhcchjjlbojaaNum
import Derived.Test.YtafhcchjjlbojaaRefA
import Derived.Test.YtafhcchjjlbojaaRefB
import Derived.Test.YtafhcchjjlbojaaRefC
import Derived.Test.YtafhcchjjlbojaaZNatgRAdd
import Derived.Test.YtafhcchjjlbojaaZNatgRDivMod
namespace Go.Proofs.Ytafhcchjjlbojaa.ZNatP
open Go.RowKit Go.Proofs.YtafhcchjjlbojaaW.PrintWords Go.Proofs.YtafhcchjjlbojaaW.PrintLast Go.Proofs.YtafhcchjjlbojaaW.PrintMore Go.Proofs.Ytafhcchjjlbojaa.Num Go.Proofs.Ytafhcchjjlbojaa.ZNat
set_option linter.unusedVariables false
set_option linter.unusedSimpArgs false

theorem len_dbl (r j : Nat) (h : (NB 65536 r).length ≤ j) : (NB 65536 (2 * r + 1)).length ≤ j + 1 := by
  refine NB_length_le (by omega) _ _ ?_
  have h1 := NB_lt_length (b := 65536) (by omega) r
  have h2 := Nat.pow_le_pow_right (show 0 < 65536 by omega) h
  rw [Nat.pow_succ]
  omega
theorem len_le (m n : Nat) (h : m ≤ n) : (NB 65536 m).length ≤ (NB 65536 n).length := NB_length_mono (by omega) h
/-- One bit of the quotient: the number M, of which M / 2 is divided. -/
theorem bit_ge (M n : Nat) (hn : 0 < n) (h : n ≤ 2 * (M / 2 % n) + M % 2) : M / n = 2 * (M / 2 / n) + 1 ∧ M % n = 2 * (M / 2 % n) + M % 2 - n := by
  have h1 := Nat.mod_add_div (M / 2) n
  have h2 := Nat.mod_lt (M / 2) hn
  have h3 := Nat.mod_add_div M 2
  refine (Nat.div_mod_unique hn).2 ⟨?_, by omega⟩
  rw [Nat.mul_add, Nat.mul_one, ← Nat.mul_assoc, Nat.mul_comm n 2, Nat.mul_assoc]
  generalize n * (M / 2 / n) = p at *
  omega
theorem bit_lt (M n : Nat) (hn : 0 < n) (h : 2 * (M / 2 % n) + M % 2 < n) : M / n = 2 * (M / 2 / n) ∧ M % n = 2 * (M / 2 % n) + M % 2 := by
  have h1 := Nat.mod_add_div (M / 2) n
  have h3 := Nat.mod_add_div M 2
  refine (Nat.div_mod_unique hn).2 ⟨?_, by omega⟩
  rw [← Nat.mul_assoc, Nat.mul_comm n 2, Nat.mul_assoc]
  generalize n * (M / 2 / n) = p at *
  omega
theorem pow16 (j t : Nat) : 2 ^ (16 * j + t) = 65536 ^ j * 2 ^ t := by rw [Nat.pow_add, Nat.pow_mul]
/-- A digit of a number, from its value. -/
theorem rd_val (l : List Int) (hW : WB 65536 l) (j : Nat) (hj : j < l.length) : rd l (j : Int) = ((VB 65536 l / 65536 ^ j % 65536 : Nat) : Int) := by
  have r := WB_rd hW j hj
  obtain ⟨x, hx⟩ := Int.eq_ofNat_of_zero_le r.1
  rw [hx] at r ⊢
  have h1 := VB_split 65536 l j (by omega)
  have h2 := VB_drop_rd 65536 l j hj
  have h3 := VB_lt (b := 65536) (by omega) (WB_take hW j)
  rw [List.length_take, Nat.min_eq_left (by omega)] at h3
  rw [hx, Int.toNat_natCast] at h2
  rw [h1, h2, Nat.add_mul_div_left _ _ (Nat.pow_pos (by omega)), Nat.div_eq_of_lt h3, Nat.zero_add, Nat.add_mul_mod_self_left, Nat.mod_eq_of_lt (by omega)]
theorem bit_rd (l : List Int) (hW : WB 65536 l) (j t : Nat) (hj : j < l.length) (ht : t < 16) : rd l (j : Int) / 2 ^ t % 2 = ((VB 65536 l / 2 ^ (16 * j + t) % 2 : Nat) : Int) := by
  rw [rd_val l hW j hj, pow16, ← Nat.div_div_eq_div_mul]
  generalize VB 65536 l / 65536 ^ j = x
  have e : (65536 : Nat) = 2 ^ t * (2 * 2 ^ (15 - t)) := by
    rw [← Nat.pow_succ', ← Nat.pow_add, show t + (15 - t + 1) = 16 from by omega]
  have h1 : x % 65536 / 2 ^ t = x / 2 ^ t % (2 * 2 ^ (15 - t)) := by
    conv => lhs; rw [e]
    exact Nat.mod_mul_right_div_self x (2 ^ t) _
  have h2 : ((x % 65536 : Nat) : Int) / 2 ^ t = ((x % 65536 / 2 ^ t : Nat) : Int) := by
    rw [Int.natCast_ediv, Int.natCast_pow]; rfl
  rw [h2, h1]
  have h3 : x / 2 ^ t % (2 * 2 ^ (15 - t)) % 2 = x / 2 ^ t % 2 := Nat.mod_mul_right_mod _ _ _
  omega
/-- A number that 2^(i+1) divides has room for the bit i. -/
theorem room_bit (q : List Int) (hW : WB 65536 q) (j t c : Nat) (hj : j < q.length) (ht : t < 16) (he : VB 65536 q = c * 2 ^ (16 * j + t + 1)) : rd q (j : Int) + ((2 ^ t : Nat) : Int) < 65536 ∧ 0 ≤ rd q (j : Int) := by
  rw [rd_val q hW j hj, he, show 16 * j + t + 1 = 16 * j + (t + 1) from by omega, pow16, show c * (65536 ^ j * 2 ^ (t + 1)) = 65536 ^ j * (c * 2 ^ (t + 1)) from Nat.mul_left_comm _ _ _, Nat.mul_div_cancel_left _ (Nat.pow_pos (by omega))]
  have e : (65536 : Nat) = 2 ^ (t + 1) * 2 ^ (15 - t) := by rw [← Nat.pow_add, show t + 1 + (15 - t) = 16 from by omega]
  have h1 : c * 2 ^ (t + 1) % 65536 = 2 ^ (t + 1) * (c % 2 ^ (15 - t)) := by
    rw [Nat.mul_comm c]
    conv => lhs; rw [e]
    exact Nat.mul_mod_mul_left _ _ _
  have h2 : c % 2 ^ (15 - t) + 1 ≤ 2 ^ (15 - t) := Nat.mod_lt _ (Nat.pow_pos (by omega))
  have h3 := Nat.mul_le_mul_left (2 ^ (t + 1)) h2
  rw [← e, Nat.mul_add, Nat.mul_one] at h3
  rw [h1]
  have h4 : 2 ^ t < 2 ^ (t + 1) := Nat.pow_lt_pow_right (by omega) (by omega)
  refine ⟨?_, by omega⟩
  omega
theorem RDivMod_l0 (l : List Int) (n : Nat) (hW : WB 65536 l) (hn : 0 < n) (hl : l.length < 1000000000) (hnl : (NB 65536 n).length < 1000000000) : ∀ (i : Nat) (q : List Int), i ≤ 16 * l.length → q.length = l.length → WB 65536 q →
    Aside0 (VB 65536 q = VB 65536 l / 2 ^ i / n * 2 ^ i) →
    Ev (fun k => zelligeref03_DivMod.l0 k l (NB 65536 n) q (NB 65536 (VB 65536 l / 2 ^ i % n)) ((i : Int) - 1)) (NB 65536 (VB 65536 l / n), NB 65536 (VB 65536 l % n)) := by
  intro i
  induction i with
  | zero =>
    intro q hi hq hWq he
    have h3 := RTrim_f _ hWq (by omega)
    rw [he.out, Nat.pow_zero, Nat.div_one, Nat.mul_one] at h3
    rw [Nat.pow_zero, Nat.div_one]
    refine Ev.step (fun k => ?_) (Ev.bind (f := fun _ t => some (t, NB 65536 (VB 65536 l % n))) h3 (Ev.now _))
    show zelligeref03_DivMod.l0 (k + 1) l (NB 65536 n) q _ _ = _
    simp only [zelligeref03_DivMod.l0]
    rw [if_neg (by omega)]
  | succ i ih =>
    intro q hi hq hWq he
    obtain ⟨j, t, hij, ht⟩ : ∃ j t, i = 16 * j + t ∧ t < 16 := ⟨i / 16, i % 16, by omega, by omega⟩
    have hj : j < l.length := by omega
    have ei : ((i + 1 : Nat) : Int) - 1 = (i : Int) := by omega
    have ed : Int.tdiv (i : Int) 16 = (j : Int) := by rw [Int.tdiv_eq_ediv_of_nonneg (by omega)]; omega
    have em : Int.tmod (i : Int) 16 = (t : Int) := by rw [Int.tmod_eq_emod_of_nonneg (by omega)]; omega
    have ed' := Aside0.mk (w64in (j : Int) (by omega) (by omega))
    have em' := Aside0.mk (u64in (t : Int) (by omega) (by omega))
    have es := Aside0.mk (wpred i (by omega))
    have hb := bit_rd l hW j t hj ht
    rw [← hij] at hb
    have hsh : shr .i64 (rd l (j : Int)) (t : Int) = rd l (j : Int) / 2 ^ t := by
      unfold shr
      rw [Int.toNat_natCast, Nat.min_eq_left (by show t ≤ 64; omega)]
    have hpos := WB_rd hW j hj
    have htm : Int.tmod (rd l (j : Int) / 2 ^ t) 2 = ((VB 65536 l / 2 ^ i % 2 : Nat) : Int) := by
      rw [Int.tmod_eq_emod_of_nonneg (Int.ediv_nonneg hpos.1 (Int.pow_nonneg (by omega))), hb]
    have hM : VB 65536 l / 2 ^ (i + 1) = VB 65536 l / 2 ^ i / 2 := by rw [Nat.pow_succ, Nat.div_div_eq_div_mul]
    have hI := ih
    rw [hM] at he ⊢
    generalize hMM : VB 65536 l / 2 ^ i = M at *
    have hr := Nat.mod_lt (M / 2) hn
    have lr := len_le _ _ (Nat.le_of_lt hr)
    have ld := len_dbl (M / 2 % n) 1000000000 (by omega)
    -- the second half of a round
    have go : Ev (fun k => zelligeref03_DivMod.j1 k l (NB 65536 n) q (NB 65536 (2 * (M / 2 % n) + M % 2)) (i : Int)) (NB 65536 (VB 65536 l / n), NB 65536 (VB 65536 l % n)) := by
      have hlen := len_le (2 * (M / 2 % n) + M % 2) (2 * (M / 2 % n) + 1) (by omega)
      have hc := RCmp_f (2 * (M / 2 % n) + M % 2) n (by omega)
      rcases Nat.lt_or_ge (2 * (M / 2 % n) + M % 2) n with h | h
      · obtain ⟨b1, b2⟩ := bit_lt M n hn h
        have hce : cmpN (2 * (M / 2 % n) + M % 2) n = -1 := by unfold cmpN; rw [if_pos h]
        rw [hce] at hc
        refine Ev.step (fun k => ?c1) (Ev.bind (f := ?F1) hc ?d1)
        case c1 =>
          show zelligeref03_DivMod.j1 (k + 1) l (NB 65536 n) q _ _ = _
          simp only [zelligeref03_DivMod.j1]
          exact rfl
        case d1 =>
          refine Ev.congr (fun k => if_neg (by omega)) ?_
          rw [es.out, ← b2]
          refine hI q (by omega) hq hWq ⟨?_⟩
          rw [he.out, b1, Nat.pow_succ, Nat.mul_comm 2, Nat.mul_assoc, Nat.mul_comm 2]
      · obtain ⟨b1, b2⟩ := bit_ge M n hn h
        have hce : cmpN (2 * (M / 2 % n) + M % 2) n ≥ 0 := by unfold cmpN; rw [if_neg (by omega)]; split <;> omega
        generalize cmpN (2 * (M / 2 % n) + M % 2) n = c at *
        have hs := RSub_f (2 * (M / 2 % n) + M % 2) n h (by omega)
        rw [← b2] at hs
        obtain ⟨rm, r0⟩ := room_bit q hWq j t (M / 2 / n) (by omega) ht (by rw [he.out, hij])
        have hsl : shl .i64 1 (t : Int) = ((2 ^ t : Nat) : Int) := by
          unfold shl
          rw [Int.toNat_natCast, Nat.min_eq_left (by show t ≤ 64; omega), Int.one_mul, i64_w]
          have h4 : (2 : Int) ^ t = ((2 ^ t : Nat) : Int) := by rw [Int.natCast_pow]; rfl
          have h5 : 2 ^ t ≤ 2 ^ 15 := Nat.pow_le_pow_right (by omega) (by omega)
          rw [h4]
          generalize 2 ^ t = P at h5 ⊢
          exact w64in _ (by omega) (by omega)
        obtain ⟨P, hP⟩ : ∃ P : Nat, P = 2 ^ t := ⟨_, rfl⟩
        rw [← hP] at rm hsl
        have E5 := Aside0.mk (w64in (rd q (j : Int) + (P : Int)) (by omega) (by omega))
        have hq' : j < q.length := by omega
        refine Ev.step (fun k => ?c2) (Ev.bind (f := ?F2) hc ?d2)
        case c2 =>
          show zelligeref03_DivMod.j1 (k + 1) l (NB 65536 n) q _ _ = _
          simp only [zelligeref03_DivMod.j1]
          exact rfl
        case d2 =>
          refine Ev.congr (fun k => if_pos hce) ?_
          refine Ev.bind hs ?_
          have hb2 := hI (q.set j (rd q (j : Int) + (P : Int))) (by omega) (by rw [List.length_set]; exact hq) (WB_set hWq _ _ (by omega) (by omega)) ⟨by
            have h7 := VB_set 65536 q j (rd q (j : Int) + (P : Int)) hq'
            obtain ⟨x, hx⟩ := Int.eq_ofNat_of_zero_le r0
            rw [hx] at h7
            rw [hx, b1]
            have e3 : ((x : Int) + (P : Int)).toNat = x + P := by omega
            have h8 : 65536 ^ j * P = 2 ^ i := by rw [hP, ← pow16, ← hij]
            rw [e3, Int.toNat_natCast, Nat.mul_add, h8, he.out, Nat.pow_succ] at h7
            rw [Nat.add_mul, Nat.one_mul, Nat.mul_comm 2, Nat.mul_assoc, Nat.mul_comm 2]
            omega⟩
          refine Ev.congr (fun k => ?_) hb2
          rw [ed, em, ed'.out, em'.out, if_pos (by omega), if_pos (by omega), if_pos (by omega), hsl, E5.out, es.out, Int.toNat_natCast]
    have ha := RAdd_f (NB 65536 (M / 2 % n)) (NB 65536 (M / 2 % n)) (WB_NB _ _) (WB_NB _ _) (by omega) (by omega)
    rw [VB_NB (by omega), show M / 2 % n + M / 2 % n = 2 * (M / 2 % n) from by omega] at ha
    refine Ev.step (fun k => ?_) (Ev.bind (f := fun k t_ => if M % 2 = 1 then (zelligeref03_Add.f k t_ [1]).bind fun t_ => zelligeref03_DivMod.j1 k l (NB 65536 n) q t_ (i : Int) else zelligeref03_DivMod.j1 k l (NB 65536 n) q t_ (i : Int)) ha ?_)
    · show zelligeref03_DivMod.l0 (k + 1) l (NB 65536 n) q _ _ = _
      simp only [zelligeref03_DivMod.l0]
      rw [ei, if_pos (by omega), ed, em, ed'.out, em'.out, hsh, htm]
      congr 1
      funext t_
      rw [if_pos (by omega), if_pos (by omega), if_pos (by omega)]
      by_cases hb1 : M % 2 = 1
      · rw [if_pos (by omega), if_pos hb1]
      · rw [if_neg (by omega), if_neg hb1]
    · have ld2 := len_le (2 * (M / 2 % n)) (2 * (M / 2 % n) + 1) (by omega)
      by_cases hb1 : M % 2 = 1
      · refine Ev.congr (fun k => if_pos hb1) ?_
        have ha2 := RAdd_f (NB 65536 (2 * (M / 2 % n))) [1] (WB_NB _ _) (WB_cons.2 ⟨by omega, WB_nil _⟩) (by omega) (by simp)
        rw [VB_NB (by omega), show VB 65536 [1] = 1 from rfl] at ha2
        rw [hb1] at go
        exact Ev.bind ha2 go
      · refine Ev.congr (fun k => if_neg hb1) ?_
        have : M % 2 = 0 := by omega
        rw [this, Nat.add_zero] at go
        exact go
theorem RDivMod_f (m n : Nat) (hn : 0 < n) (hl : (NB 65536 m).length < 1000000000) (hnl : (NB 65536 n).length < 1000000000) : Ev (fun k => zelligeref03_DivMod.f k (NB 65536 m) (NB 65536 n)) (NB 65536 (m / n), NB 65536 (m % n)) := by
  have h0 := RDivMod_l0 (NB 65536 m) n (WB_NB _ _) hn hl hnl (16 * (NB 65536 m).length) (List.replicate (NB 65536 m).length 0) (Nat.le_refl _) (by simp) (WB_rep _ _ (by omega))
  have hz : VB 65536 (NB 65536 m) / 2 ^ (16 * (NB 65536 m).length) = 0 := by
    rw [VB_NB (by omega), Nat.pow_mul]
    exact Nat.div_eq_of_lt (NB_lt_length (by omega) m)
  rw [hz, Nat.zero_div, Nat.zero_mul, Nat.zero_mod, NB_zero, VB_NB (by omega)] at h0
  have h1 := h0 ⟨VB_rep _ _⟩
  unfold zelligeref03_DivMod.f
  refine Ev.congr (fun k => ?_) h1
  have E1 := Aside0.mk (w64in (16 * ((NB 65536 m).length : Int)) (by omega) (by omega))
  have E2 := Aside0.mk (w64in (16 * ((NB 65536 m).length : Int) - 1) (by omega) (by omega))
  rw [if_pos (by omega), if_pos (by omega), E1.out, E2.out, Int.toNat_natCast]
  rfl
end Go.Proofs.Ytafhcchjjlbojaa.ZNatP
