/- What the printed functions of nat come to, told of numbers: division. -/
import Derived.Test.YtafhcchjjlbojaaNum
import Derived.Test.YtafhcchjjlbojaaNatA
import Derived.Test.YtafhcchjjlbojaaNatD
import Derived.Test.YtafhcchjjlbojaaNatG
import Derived.Test.YtafhcchjjlbojaaNatI
import Derived.Test.YtafhcchjjlbojaaZNatgDiv
import Derived.Test.YtafhcchjjlbojaaZNatgLong
namespace Go.Proofs.Ytafhcchjjlbojaa.ZNatP
open Go.RowKit Go.Proofs.YtafhcchjjlbojaaW.PrintWords Go.Proofs.YtafhcchjjlbojaaW.PrintLast Go.Proofs.YtafhcchjjlbojaaW.PrintMore Go.Proofs.Ytafhcchjjlbojaa.Num Go.Proofs.Ytafhcchjjlbojaa.ZNat
set_option linter.unusedVariables false
set_option linter.unusedSimpArgs false

/-- A canonical list's number has its highest word. -/
theorem top_word (b : Nat) (hb : 2 ≤ b) (v : List Int) (m : Nat) (hW : WB b v) (hl : v.length = m + 1) : VB b v = VB b (v.take m) + b ^ m * (rd v (m : Int)).toNat ∧ VB b (v.take m) < b ^ m := by
  constructor
  · rw [VB_split b v m (by omega), VB_drop_rd _ _ m (by omega), List.drop_of_length_le (by omega)]
    simp [VB]
  · have := VB_lt hb (WB_take hW m)
    rw [List.length_take, Nat.min_eq_left (by omega)] at this
    exact this
theorem top_pos (b : Nat) (hb : 2 ≤ b) (n m : Nat) (hl : (NB b n).length = m + 1) : 0 < (rd (NB b n) (m : Int)).toNat := by
  obtain ⟨h1, h2⟩ := top_word b hb (NB b n) m (WB_NB _ _) hl
  rcases Nat.eq_zero_or_pos (rd (NB b n) (m : Int)).toNat with h | h
  · rw [h, Nat.mul_zero, Nat.add_zero, VB_NB hb] at h1
    have := NB_length_le hb n m (by rw [h1]; exact h2)
    omega
  · exact h
theorem norm_len (b S c t m T : Nat) (hS : 0 < S) (hc : b = S * c) (h2 : t * S < b) (hT : T < b ^ m) : S * (T + b ^ m * t) < b ^ (m + 1) ∧ b ^ m * (t * S) ≤ S * (T + b ^ m * t) := by
  have e : S * (T + b ^ m * t) = S * T + b ^ m * (t * S) := by grind
  constructor
  · have h1 : t < c := by
      rcases Nat.lt_or_ge t c with h | h
      · exact h
      · have : S * c ≤ S * t := Nat.mul_le_mul_left _ h
        rw [← hc, Nat.mul_comm] at this
        omega
    have h3 : S * (T + b ^ m * t) < S * (b ^ m * (t + 1)) := Nat.mul_lt_mul_of_pos_left (by rw [Nat.mul_add]; omega) hS
    have h4 : S * (b ^ m * (t + 1)) ≤ b ^ (m + 1) := by
      have h5 : b ^ m * (S * (t + 1)) ≤ b ^ m * b := Nat.mul_le_mul_left _ (by rw [hc]; exact Nat.mul_le_mul_left _ h1)
      rw [Nat.pow_succ]
      have : S * (b ^ m * (t + 1)) = b ^ m * (S * (t + 1)) := by grind
      omega
    omega
  · rw [e]
    omega
theorem norm_top (b V T m top q : Nat) (hV : V = T + b ^ m * top) (hT : T < b ^ m) (h : b ^ m * q ≤ V) : q ≤ top := by
  rcases Nat.lt_or_ge top q with h1 | h1
  · have : b ^ m * (top + 1) ≤ b ^ m * q := Nat.mul_le_mul_left _ h1
    rw [Nat.mul_add] at this
    omega
  · exact h1
theorem norm_first (b S A X T m L : Nat) (hb : 0 < b) (hS : 0 < S) (hA : A < b ^ (m + L)) (h : S * A = T + b ^ L * X) : X < S * b ^ m := by
  rcases Nat.lt_or_ge X (S * b ^ m) with h1 | h1
  · exact h1
  · have h2 : b ^ L * (S * b ^ m) ≤ b ^ L * X := Nat.mul_le_mul_left _ h1
    have h3 : S * A < S * b ^ (m + L) := Nat.mul_lt_mul_of_pos_left hA hS
    have h4 : S * b ^ (m + L) = b ^ L * (S * b ^ m) := by rw [Nat.pow_add]; grind
    omega
theorem long_f (a : List Int) (n : Nat) (m : Nat) (ha : WB 4294967296 a) (la : a.length < 35184372088830) (hm : 1 ≤ m) (hl : (NB 4294967296 n).length = m + 1) (hma : m + 1 ≤ a.length) :
    Ev (fun k => nat_long.f k a (NB 4294967296 n)) (NB 4294967296 (VB 4294967296 a / n), NB 4294967296 (VB 4294967296 a % n)) := by
  have hWb := WB_NB 4294967296 n
  have hVb := VB_NB (b := 4294967296) (by omega) n
  have htp := top_pos 4294967296 (by omega) n m hl
  obtain ⟨hv1, hv2⟩ := top_word 4294967296 (by omega) _ m hWb hl
  have rt := WB_rd hWb m (by omega)
  rw [hVb] at hv1
  have hHV := Aside0.mk hVb
  clear hVb
  generalize hbb : NB 4294967296 n = b at *
  generalize hT : VB 4294967296 (b.take m) = T at *
  obtain ⟨t, htt⟩ := Int.eq_ofNat_of_zero_le rt.1
  rw [htt] at rt htp hv1
  rw [Int.toNat_natCast] at htp hv1
  have HV1 := Aside0.mk hv1
  have HV2 := Aside0.mk hv2
  clear hv1 hv2 hT
  obtain ⟨s, hs, hs1, hs2, hz⟩ := zeros_f t htp (by omega)
  obtain ⟨u, hu1, hu2, hu3, hu4⟩ := shift_f a s hs ha (by omega)
  obtain ⟨w, hw1, hw2, hw3, hw4⟩ := shift_f b s hs hWb (by omega)
  rw [hHV.out] at hw3
  have hS := Nat.two_pow_pos s
  have hSc : (4294967296 : Nat) = 2 ^ s * 2 ^ (32 - s) := by rw [← Nat.pow_add, show s + (32 - s) = 32 from by omega]
  have HSC := Aside0.mk hSc
  clear hSc
  have HU3 := Aside0.mk hu3
  have HW3 := Aside0.mk hw3
  clear hu3 hw3
  obtain ⟨S, hSS⟩ : ∃ S : Nat, S = 2 ^ s := ⟨_, rfl⟩
  rw [← hSS] at hS HSC HU3 HW3 hs1 hs2
  have HSS := Aside0.mk hSS
  clear hSS
  obtain ⟨hn1, hn2⟩ := norm_len 4294967296 S _ t m T hS HSC.out hs2 HV2.out
  rw [← HV1.out] at hn1 hn2
  have hn3 : 4294967296 ^ m ≤ n := by
    rw [HV1.out]
    have : 4294967296 ^ m * 1 ≤ 4294967296 ^ m * t := Nat.mul_le_mul_left _ htp
    rw [Nat.mul_one] at this
    exact Nat.le_trans this (Nat.le_add_left _ _)
  have hn4 : S * 4294967296 ^ m ≤ S * n := Nat.mul_le_mul_left _ hn3
  have hn5 : 0 < n := Nat.lt_of_lt_of_le (Nat.pow_pos (by decide)) hn3
  have hn6 : 4294967296 ^ m ≤ S * n := Nat.le_trans hn3 (Nat.le_mul_of_pos_left _ hS)
  have HN1 := Aside0.mk hn1
  have HN2 := Aside0.mk hn2
  have HN4 := Aside0.mk hn4
  have HN6 := Aside0.mk hn6
  clear hn1 hn2 hn3 hn4 hn6
  -- the divisor, shifted
  have hlv1 := NB_length_le (b := 4294967296) (by omega) _ _ HN1.out
  have hlv2 := NB_length_gt (b := 4294967296) (by omega) _ _ HN6.out
  have hWv := WB_NB 4294967296 (S * n)
  have hVv := VB_NB (b := 4294967296) (by omega) (S * n)
  have hto := trim_own_f w hw2 (by omega)
  rw [HW3.out] at hto
  have hlv : (NB 4294967296 (S * n)).length = m + 1 := by omega
  clear hlv1 hlv2
  generalize NB 4294967296 (S * n) = v at *
  obtain ⟨g1, g2⟩ := top_word 4294967296 (by omega) v m hWv hlv
  rw [hVv] at g1
  have r0 := WB_rd hWv m (by omega)
  have r1 := WB_rd hWv (m - 1) (by omega)
  obtain ⟨top, htop⟩ := Int.eq_ofNat_of_zero_le r0.1
  obtain ⟨next, hnext⟩ := Int.eq_ofNat_of_zero_le r1.1
  rw [htop] at r0 g1
  rw [hnext] at r1
  rw [Int.toNat_natCast] at g1
  have htop1 : 2147483648 ≤ top := Nat.le_trans hs1 (norm_top _ _ _ m top _ g1 g2 HN2.out)
  clear g1 g2
  have hVb2 := VB_lt (by omega) ha
  have hsp := VB_split 4294967296 u (a.length - m) (by omega)
  rw [HU3.out] at hsp
  have hfirst := norm_first 4294967296 S _ _ _ m (a.length - m) (by omega) hS (by rw [show m + (a.length - m) = a.length from by omega]; exact hVb2) hsp
  have HF := Aside0.mk (Nat.lt_of_lt_of_le hfirst HN4.out)
  clear hVb2 hsp hfirst
  have HVV := Aside0.mk hVv
  clear hVv
  have hgo := long_l0 s hs v (m + 1) (by omega) hlv hWv top next (by rw [Nat.add_sub_cancel]; exact htop) (by rw [show m + 1 - 2 = m - 1 from by omega]; exact hnext) htop1 (a.length - m) (by omega) (a.length - m) u (List.replicate (a.length - m) 0) (S * VB 4294967296 a) (Nat.le_refl _) (by omega) (by simp) hu2 (WB_rep _ _ (by omega)) ⟨by rw [HVV.out]; exact HF.out⟩ ⟨by rw [List.drop_of_length_le (by simp), HU3.out, VB, Nat.mul_zero, Nat.mul_zero, Nat.add_zero]⟩
  rw [HVV.out, Nat.mul_div_mul_left _ _ hS, Nat.mul_mod_mul_left, ← HSS.out, Nat.mul_div_cancel_left _ hS] at hgo
  have E1 := Aside0.mk (show wrap64 ((b.length : Int) - 1) = (m : Int) from by rw [hl, wpred _ (by omega)]; omega)
  have E2 := Aside0.mk (show wrap64 ((v.length : Int) - 1) = (m : Int) from by rw [hlv, wpred _ (by omega)]; omega)
  have E3 := Aside0.mk (show wrap64 ((v.length : Int) - 2) = ((m - 1 : Nat) : Int) from by rw [hlv, w64in _ (by omega) (by omega)]; omega)
  have E4 := Aside0.mk (show wrap64 ((u.length : Int) - (v.length : Int)) = ((a.length - m : Nat) : Int) from by rw [hlv, hu1, wsub _ _ (by omega) (by omega)]; omega)
  refine Ev.congr (fun k => ?c) (Ev.bind (f := ?F) hu4 ?d)
  case c =>
    unfold nat_long.f
    rw [E1.out, if_pos (by omega), if_pos (by omega), htt, hz, Option.bind_some]
  case d =>
    refine Ev.bind hw4 ?_
    refine Ev.bind hto ?_
    refine Ev.congr (fun k => ?_) hgo
    rw [E2.out, E3.out, E4.out, if_pos (by omega), Int.toNat_natCast, if_pos (by omega), Option.bind_some, if_pos (by omega), if_pos (by omega), if_pos (by omega), if_pos (by omega), htop, hnext, u64in (top : Int) (by omega) (by omega), u64in (next : Int) (by omega) (by omega), List.length_replicate, wpred _ (by omega), hlv]
/-- Division; the divisor is trimmed, and not 0. -/
theorem divmod_f (a : List Int) (n : Nat) (hn : 0 < n) (ha : WB 4294967296 a) (la : a.length < 35184372088830) (ln : (NB 4294967296 n).length < 35184372088830) (hc : NB 4294967296 (VB 4294967296 a) = a) :
    Ev (fun k => nat_divmod.f k a (NB 4294967296 n)) (NB 4294967296 (VB 4294967296 a / n), NB 4294967296 (VB 4294967296 a % n)) := by
  unfold nat_divmod.f
  have h1 := cmp_f a (NB 4294967296 n) ha (WB_NB _ _) (by omega) (by omega)
  rw [VB_NB (by omega)] at h1
  refine Ev.bind h1 ?_
  unfold cmpN
  by_cases h : VB 4294967296 a < n
  · rw [if_pos h, Nat.div_eq_of_lt h, Nat.mod_eq_of_lt h, NB_zero, hc]
    refine Ev.congr (fun k => ?_) (Ev.now _)
    rw [if_pos (by omega), clone_f a (by omega)]
    rfl
  · rw [if_neg h]
    have h0 : (NB 4294967296 n).length ≠ 0 := fun e => by
      have := (NB_len0 (b := 4294967296) (by omega) n).1 e
      omega
    have hne : ¬ ((if n < VB 4294967296 a then (1 : Int) else 0) < 0) := by split <;> omega
    by_cases h2 : (NB 4294967296 n).length = 1
    · have hn2 := NB_lt_length (b := 4294967296) (by omega) n
      rw [h2, Nat.pow_one] at hn2
      have hnn : NB 4294967296 n = [(n : Int)] := by
        rw [NB_pos (by omega) hn, Nat.mod_eq_of_lt hn2, Nat.div_eq_of_lt hn2, NB_zero]
      obtain ⟨z, z1, z2, z3, z4⟩ := short_f a n hn hn2 ha (by omega)
      have t1 := trim_own_f z z2 (by omega)
      rw [z3] at t1
      have hml := Nat.mod_lt (VB 4294967296 a) hn
      have t2 := trim_own_f [((VB 4294967296 a % n : Nat) : Int)] (WB_cons.2 ⟨⟨Int.natCast_nonneg _, Int.ofNat_lt.2 (Nat.lt_trans hml hn2)⟩, WB_nil _⟩) (by simp)
      rw [VB, VB, Nat.mul_zero, Nat.add_zero, Int.toNat_natCast] at t2
      refine Ev.congr (fun k => ?c) (Ev.bind (f := ?F) z4 ?d)
      case c =>
        rw [if_neg hne, if_pos (by omega), clone_f a (by omega), Option.bind_some, if_pos (by omega), hnn]
        exact rfl
      case d =>
        refine Ev.bind t1 ?_
        refine Ev.bind t2 ?_
        exact Ev.now _
    · have hlen : (NB 4294967296 n).length ≤ a.length := by
        rw [← hc]
        exact NB_length_mono (by omega) (by omega)
      have hlg := long_f a n ((NB 4294967296 n).length - 1) ha la (by omega) (by omega) (by omega)
      refine Ev.congr (fun k => ?c2) (Ev.bind (f := ?F2) hlg ?d2)
      case c2 =>
        rw [if_neg hne, if_neg (by omega)]
      case d2 => exact Ev.now _
theorem DivMod_f (a b : List Int) (ha : WB 4294967296 a) (hb : WB 4294967296 b) (la : a.length < 35184372088830) (lb : b.length < 35184372088830) :
    Ev (fun k => nat_DivMod.f k a b) (if VB 4294967296 b = 0 then ([], [], 3) else (NB 4294967296 (VB 4294967296 a / VB 4294967296 b), NB 4294967296 (VB 4294967296 a % VB 4294967296 b), 0)) := by
  unfold nat_DivMod.f
  have l1 := NBV_len (b := 4294967296) (by omega) ha
  have l2 := NBV_len (b := 4294967296) (by omega) hb
  refine Ev.bind (trim_f a ha (by omega)) ?_
  refine Ev.bind (trim_f b hb (by omega)) ?_
  generalize VB 4294967296 a = m at *
  generalize VB 4294967296 b = n at *
  by_cases h : n = 0
  · subst h
    rw [if_pos rfl]
    refine Ev.congr (fun k => ?_) (Ev.now _)
    rw [NB_zero, if_pos (by simp)]
  · rw [if_neg h]
    have h0 : (NB 4294967296 n).length ≠ 0 := fun e => h ((NB_len0 (b := 4294967296) (by omega) n).1 e)
    have hd := divmod_f (NB 4294967296 m) n (by omega) (WB_NB _ _) (by omega) (by omega) (by rw [VB_NB (by omega)])
    rw [VB_NB (by omega)] at hd
    refine Ev.congr (fun k => ?c) (Ev.bind (f := ?F) hd ?d)
    case c => rw [if_neg (by omega)]
    case d => exact Ev.now _
end Go.Proofs.Ytafhcchjjlbojaa.ZNatP
