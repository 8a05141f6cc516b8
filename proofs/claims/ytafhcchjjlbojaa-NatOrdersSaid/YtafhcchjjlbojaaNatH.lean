/- What the printed functions of nat come to, told of numbers: long division. -/
import Derived.Test.YtafhcchjjlbojaaNum
import Derived.Test.YtafhcchjjlbojaaNatA
import Derived.Test.YtafhcchjjlbojaaZNatgCore
import Derived.Test.YtafhcchjjlbojaaZNatgLong
namespace Go.Proofs.Ytafhcchjjlbojaa.ZNatP
open Go.RowKit Go.Proofs.YtafhcchjjlbojaaW.PrintWords Go.Proofs.YtafhcchjjlbojaaW.PrintLast Go.Proofs.YtafhcchjjlbojaaW.PrintMore Go.Proofs.Ytafhcchjjlbojaa.Num Go.Proofs.Ytafhcchjjlbojaa.ZNat
set_option linter.unusedVariables false
set_option linter.unusedSimpArgs false

theorem unshift_num (b s t x V : Nat) (hb : b = 2 ^ s * t) (hb0 : 0 < b) (hx : x < b) : (x + b * V) / 2 ^ s = (((V % b) * b + x) / 2 ^ s) % b + b * (V / 2 ^ s) := by
  have hp := Nat.two_pow_pos s
  have h1 := Nat.div_add_mod V b
  have h2 : x + b * V = ((V % b) * b + x) + 2 ^ s * (b * (t * (V / b))) := by
    have h3 : 2 ^ s * (b * (t * (V / b))) = b * (b * (V / b)) := by
      have : b * (b * (V / b)) = (2 ^ s * t) * (b * (V / b)) := by rw [← hb]
      rw [this]
      grind
    rw [h3]
    have h4 : b * V = b * (b * (V / b)) + (V % b) * b := by
      rw [Nat.mul_comm (V % b), ← Nat.mul_add, h1]
    omega
  have h5 : (x + b * V) / 2 ^ s / b = V / 2 ^ s := by
    rw [Nat.div_div_eq_div_mul, Nat.mul_comm (2 ^ s) b, ← Nat.div_div_eq_div_mul]
    congr 1
    rw [Nat.add_mul_div_left _ _ hb0, Nat.div_eq_of_lt hx, Nat.zero_add]
  have h6 : (x + b * V) / 2 ^ s % b = ((V % b) * b + x) / 2 ^ s % b := by
    rw [h2, Nat.add_mul_div_left _ _ hp, Nat.add_mul_mod_self_left]
  rw [← h6, ← h5]
  have h7 := Nat.div_add_mod ((x + b * V) / 2 ^ s) b
  rw [Nat.add_comm] at h7
  exact h7.symm
theorem low_same (c x V : Nat) : (c % 4294967296 * 4294967296 + x) % 4294967296 = (x + 4294967296 * V) % 4294967296 := by omega
theorem low_lt (c x : Nat) (hx : x < 4294967296) : c % 4294967296 * 4294967296 + x < 18446744073709551616 := by omega
theorem long_l1 (s : Nat) (hs : s < 32) (quo : List Int) (hquo : WB 4294967296 quo) (hlq : quo.length < 35184372088831) : ∀ (i : Nat) (a q : List Int) (V c : Nat), a.length = i → i + q.length < 35184372088831 → WB 4294967296 a → WB 4294967296 q →
    Aside0 (VB 4294967296 q = V / 2 ^ s) → c % 4294967296 = V % 4294967296 → c < 18446744073709551616 →
    Ev (fun k => nat_long.l1 k (s : Int) quo (a ++ q) (c : Int) ((i : Int) - 1)) (NB 4294967296 (VB 4294967296 quo), NB 4294967296 ((VB 4294967296 a + 4294967296 ^ i * V) / 2 ^ s)) := by
  intro i
  induction i with
  | zero =>
    intro a q V c ha hb hWa hWq hq hc hc2
    obtain rfl := List.length_eq_zero_iff.1 ha
    refine Ev.step (f := fun k => (nat_trim_own.f k quo).bind fun t214 => ((nat_trim_own.f k q).bind fun t217 => (some (t214, t217)))) (fun k => ?_) ?_
    · show nat_long.l1 (k + 1) (s : Int) quo ([] ++ q) (c : Int) _ = _
      simp only [nat_long.l1]
      rw [if_neg (by omega)]
      rfl
    · refine Ev.bind (trim_own_f quo hquo (by omega)) ?_
      refine Ev.congr (fun k => ?_) (Ev.bind (f := fun _ t => some (NB 4294967296 (VB 4294967296 quo), t)) (trim_own_f q hWq (by omega)) ?_)
      · rfl
      · rw [hq.out]
        simp only [VB, Nat.pow_zero, Nat.one_mul, Nat.zero_add]
        exact Ev.now _
  | succ i ih =>
    intro a q V c ha hb hWa hWq hq hc hc2
    rcases List.eq_nil_or_concat a with rfl | ⟨m, x, rfl⟩
    · simp at ha
    rw [List.concat_eq_append] at *
    have hm : m.length = i := by simpa using ha
    obtain ⟨hWm, hWx⟩ := WB_append.1 hWa
    have hx := (WB_cons.1 hWx).1
    obtain ⟨x, rfl⟩ := Int.eq_ofNat_of_zero_le hx.1
    have hpw : (4294967296 : Nat) = 2 ^ s * 2 ^ (32 - s) := by rw [← Nat.pow_add, show s + (32 - s) = 32 from by omega]
    have hnum := unshift_num 4294967296 s (2 ^ (32 - s)) x V hpw (by omega) (by omega)
    have hwr : IntKind.u64.wrap ((c : Int) * 4294967296) = IntKind.u64.wrap (((c % 4294967296 : Nat) : Int) * 4294967296) := by rw [u64w, u64w]; omega
    have ho := or32 (c % 4294967296) x (by omega) (by omega)
    have HO := Aside0.mk ho
    clear ho
    have hsr : shr .u64 (((c % 4294967296 * 4294967296 + x : Nat)) : Int) (s : Int) = (((c % 4294967296 * 4294967296 + x) / 2 ^ s : Nat) : Int) := by
      unfold shr
      rw [Int.toNat_natCast, show IntKind.u64.bits = 64 from rfl, Nat.min_eq_left (by omega)]
      simp
    have HSR := Aside0.mk hsr
    have HNUM := Aside0.mk hnum
    have HWR := Aside0.mk hwr
    clear hsr hnum hwr hpw
    have HP := Aside0.mk (wpred i (by omega))
    have hval : VB 4294967296 (m ++ [(x : Int)]) + 4294967296 ^ (i + 1) * V = VB 4294967296 m + 4294967296 ^ i * (x + 4294967296 * V) := by
      rw [VB_snoc, hm, Int.toNat_natCast, Nat.mul_add, Nat.pow_succ, Nat.mul_assoc, Nat.add_assoc]
    rw [hval]
    clear hval
    have hmod : (c % 4294967296 * 4294967296 + x) / 2 ^ s % 4294967296 < 4294967296 := Nat.mod_lt _ (by omega)
    have HMOD := Aside0.mk hmod
    clear hmod
    have hx2 : x < 4294967296 := by omega
    have hd : VB 4294967296 ((((c % 4294967296 * 4294967296 + x) / 2 ^ s % 4294967296 : Nat) : Int) :: q) = (x + 4294967296 * V) / 2 ^ s := by
      rw [HNUM.out, VB, hq.out, hc, Int.toNat_natCast]
    have hg := ih m ((((c % 4294967296 * 4294967296 + x) / 2 ^ s % 4294967296 : Nat) : Int) :: q) (x + 4294967296 * V) (c % 4294967296 * 4294967296 + x) hm (by rw [List.length_cons]; omega) hWm (WB_cons.2 ⟨⟨Int.natCast_nonneg _, Int.ofNat_lt.2 HMOD.out⟩, hWq⟩) ⟨hd⟩ (low_same c x V) (low_lt c x hx2)
    refine Ev.step (fun k => ?_) hg
    show nat_long.l1 (k + 1) (s : Int) quo (m ++ [(x : Int)] ++ q) (c : Int) _ = _
    rw [List.append_assoc, List.singleton_append]
    have hrd : rd (m ++ (x : Int) :: q) (i : Int) = (x : Int) := by rw [← hm]; exact rd_mid m _ q
    have hst : ∀ w : Int, (m ++ (x : Int) :: q).set i w = m ++ w :: q := by intro w; rw [← hm]; exact set_mid m _ _ q
    have hln : (m ++ (x : Int) :: q).length = i + 1 + q.length := by simp; omega
    have HRD := Aside0.mk hrd
    have HST := Aside0.mk hst
    clear hrd hst
    simp only [nat_long.l1]
    rw [show ((i + 1 : Nat) : Int) - 1 = (i : Int) from by omega, if_pos (by omega), if_pos (by omega), if_pos (by omega), if_pos (by omega), HRD.out, HWR.out, HO.out, HSR.out, HP.out, nmod32, Int.toNat_natCast, HST.out]
/-- One word of the quotient, by what off and back say. -/
theorem long_word (w V q z d M : Nat) (hV : 0 < V) (h1 : w / V ≤ q) (h2 : q ≤ w / V + 1) (hz : z < M) (hd : d ≤ 1) (h : z + q * V = w + M * d) :
    (d = 0 → q = w / V ∧ z = w % V) ∧ (d = 1 → q = w / V + 1 ∧ ∀ z' c', c' ≤ 1 → z' < M → z' + M * c' = z + V → z' = w % V) := by
  have hm := Nat.div_add_mod w V
  have hl := Nat.mod_lt w hV
  have hc : V * (w / V) = w / V * V := Nat.mul_comm _ _
  have hq : q = w / V ∨ q = w / V + 1 := by omega
  constructor
  · intro e
    rw [e, Nat.mul_zero] at h
    rcases hq with e | e
    · rw [e] at h
      exact ⟨e, by omega⟩
    · rw [e, Nat.add_mul, Nat.one_mul] at h
      omega
  · intro e
    rw [e, Nat.mul_one] at h
    rcases hq with e | e
    · rw [e] at h
      omega
    · rw [e, Nat.add_mul, Nat.one_mul] at h
      refine ⟨e, fun z' c' h3 h4 h5 => ?_⟩
      have : c' = 0 ∨ c' = 1 := by omega
      rcases this with e | e
      · subst e
        rw [Nat.mul_zero] at h5
        omega
      · subst e
        rw [Nat.mul_one] at h5
        omega
theorem long_sum (L X V w b W : Nat) : (L + W * w) + V * (W * b * X) = (L + W * (w % V)) + V * (W * ((w / V) + b * X)) := by
  have := Nat.div_add_mod w V
  have h2 : V * (W * (w / V + b * X)) = W * (V * (w / V)) + V * (W * b * X) := by grind
  have h3 : W * w = W * (V * (w / V)) + W * (w % V) := by rw [← Nat.mul_add, this]
  omega
end Go.Proofs.Ytafhcchjjlbojaa.ZNatP
