/- What the printed functions of nat come to, told of numbers: subtraction. -/
import Derived.Test.YtafhcchjjlbojaaNum
import Derived.Test.YtafhcchjjlbojaaNatA
import Derived.Test.YtafhcchjjlbojaaZNatgAdd
import Derived.Test.YtafhcchjjlbojaaZNatgCore
namespace Go.Proofs.Ytafhcchjjlbojaa.ZNatP
open Go.RowKit Go.Proofs.YtafhcchjjlbojaaW.PrintWords Go.Proofs.YtafhcchjjlbojaaW.PrintLast Go.Proofs.YtafhcchjjlbojaaW.PrintMore Go.Proofs.Ytafhcchjjlbojaa.Num Go.Proofs.Ytafhcchjjlbojaa.ZNat
set_option linter.unusedVariables false
set_option linter.unusedSimpArgs false

/-- sub's loop: out + b's digits = a's digits + what is borrowed. -/
theorem sub_l0 (a b : List Int) (ha : WB 4294967296 a) (hb : WB 4294967296 b) (hle : VB 4294967296 b ≤ VB 4294967296 a) (hl : b.length ≤ a.length) (la : a.length < 35184372088831) : ∀ (d i : Nat) (out : List Int) (c : Nat),
    a.length - i = d → i ≤ a.length → out.length = i → WB 4294967296 out → c ≤ 1 → Aside0 (VB 4294967296 out + VB 4294967296 (b.take i) = VB 4294967296 (a.take i) + 4294967296 ^ i * c) →
    Ev (fun k => nat_sub.l0 k b out (c : Int) a (a.length : Int) (i : Int)) (NB 4294967296 (VB 4294967296 a - VB 4294967296 b)) := by
  intro d
  induction d with
  | zero =>
    intro i out c hd hi ho hW hc he
    have hi' : i = a.length := by omega
    subst hi'
    have he := he.out
    rw [List.take_of_length_le (Nat.le_refl _), List.take_of_length_le hl] at he
    have h1 := VB_lt (by omega) hW
    rw [ho] at h1
    have hc0 : c = 0 := by
      rcases Nat.eq_zero_or_pos c with h | h
      · exact h
      · have : c = 1 := by omega
        subst this
        omega
    subst hc0
    have hv : VB 4294967296 out = VB 4294967296 a - VB 4294967296 b := by omega
    have h3 := trim_own_f _ hW (by omega)
    rw [hv] at h3
    refine Ev.step (f := fun k => (nat_trim_own.f k out).bind fun t => some t) (fun k => ?_) (Ev.bind h3 (Ev.now _))
    show nat_sub.l0 (k + 1) b out ((0 : Nat) : Int) a (a.length : Int) (a.length : Int) = _
    simp only [nat_sub.l0]
    rw [if_neg (by omega)]
  | succ d ih =>
    intro i out c hd hi ho hW hc he
    have ra := WB_rd ha i (by omega)
    have ta := take_all_rd 4294967296 a i
    have tb := take_all_rd 4294967296 b i
    rw [if_pos (by omega)] at ta
    have TA := Aside0.mk ta
    have TB := Aside0.mk tb
    clear ta tb
    have ew := wsucc i (by omega)
    obtain ⟨x, hx⟩ := Int.eq_ofNat_of_zero_le ra.1
    rw [hx] at ra TA
    obtain ⟨y, hy, hyb⟩ : ∃ y : Nat, (y : Int) < 4294967296 ∧ (if i < b.length then (rd b (i : Int)).toNat else 0) = y := by
      by_cases hib : i < b.length
      · have rb := WB_rd hb i hib
        exact ⟨(rd b (i : Int)).toNat, by omega, by rw [if_pos hib]⟩
      · exact ⟨0, by omega, by rw [if_neg hib]⟩
    rw [hyb] at TB
    have es : ∃ q c' : Nat, q < 4294967296 ∧ c' ≤ 1 ∧ q + y + c = x + 4294967296 * c' ∧
        nat_sub.l0 = nat_sub.l0 ∧ ∀ k, nat_sub.l0 (k + 1) b out (c : Int) a (a.length : Int) (i : Int) = nat_sub.l0 k b (out ++ [(q : Int)]) (c' : Int) a (a.length : Int) ((i + 1 : Nat) : Int) := by
      by_cases hlt : x < y + c
      · refine ⟨x + 4294967296 - y - c, 1, by omega, by omega, by omega, rfl, fun k => ?_⟩
        simp only [nat_sub.l0]
        by_cases hib : i < b.length
        · rw [if_pos hib] at hyb
          have rb := WB_rd hb i hib
          have hy2 : rd b (i : Int) = (y : Int) := by omega
          have ev : IntKind.u64.wrap (IntKind.u64.wrap (IntKind.u64.wrap (x : Int) - (c : Int)) - IntKind.u64.wrap (y : Int)) = 18446744073709551616 + (x : Int) - c - y := by simp only [u64w]; omega
          rw [if_pos (by omega), if_pos (by omega), if_pos (by omega), if_pos (by omega), if_pos (by omega), hx, hy2, ew, ev, show (18446744073709551616 + (x : Int) - c - y) % 4294967296 = ((x + 4294967296 - y - c : Nat) : Int) from by omega, show (18446744073709551616 + (x : Int) - c - y) / 9223372036854775808 = ((1 : Nat) : Int) from by omega]
        · rw [if_neg hib] at hyb
          have ev : IntKind.u64.wrap (IntKind.u64.wrap (x : Int) - (c : Int)) = 18446744073709551616 + (x : Int) - c := by simp only [u64w]; omega
          rw [if_pos (by omega), if_pos (by omega), if_pos (by omega), if_neg (by omega), if_pos (by omega), hx, ew, ev, show (18446744073709551616 + (x : Int) - c) % 4294967296 = ((x + 4294967296 - y - c : Nat) : Int) from by omega, show (18446744073709551616 + (x : Int) - c) / 9223372036854775808 = ((1 : Nat) : Int) from by omega]
      · refine ⟨x - y - c, 0, by omega, by omega, by omega, rfl, fun k => ?_⟩
        simp only [nat_sub.l0]
        by_cases hib : i < b.length
        · rw [if_pos hib] at hyb
          have rb := WB_rd hb i hib
          have hy2 : rd b (i : Int) = (y : Int) := by omega
          have ev : IntKind.u64.wrap (IntKind.u64.wrap (IntKind.u64.wrap (x : Int) - (c : Int)) - IntKind.u64.wrap (y : Int)) = (x : Int) - c - y := by simp only [u64w]; omega
          rw [if_pos (by omega), if_pos (by omega), if_pos (by omega), if_pos (by omega), if_pos (by omega), hx, hy2, ew, ev, show ((x : Int) - c - y) % 4294967296 = ((x - y - c : Nat) : Int) from by omega, show ((x : Int) - c - y) / 9223372036854775808 = ((0 : Nat) : Int) from by omega]
        · rw [if_neg hib] at hyb
          have ev : IntKind.u64.wrap (IntKind.u64.wrap (x : Int) - (c : Int)) = (x : Int) - c := by simp only [u64w]; omega
          rw [if_pos (by omega), if_pos (by omega), if_pos (by omega), if_neg (by omega), if_pos (by omega), hx, ew, ev, show ((x : Int) - c) % 4294967296 = ((x - y - c : Nat) : Int) from by omega, show ((x : Int) - c) / 9223372036854775808 = ((0 : Nat) : Int) from by omega]
    obtain ⟨q, c', hq, hc', hqe, _, hs⟩ := es
    refine Ev.step hs ?_
    refine ih (i + 1) _ c' (by omega) (by omega) (by simp [ho]) ?_ hc' ?_
    · rw [WB_append]
      exact ⟨hW, WB_cons.2 ⟨by omega, WB_nil _⟩⟩
    · refine ⟨?_⟩
      have he := he.out
      rw [VB_snoc, ho, Int.toNat_natCast, TA.out, TB.out]
      simp only [Int.toNat_natCast]
      have h5 : 4294967296 ^ i * (q + y + c) = 4294967296 ^ i * (x + 4294967296 * c') := by rw [hqe]
      rw [Nat.mul_add, Nat.mul_add, Nat.mul_add] at h5
      have h6 : 4294967296 ^ (i + 1) * c' = 4294967296 ^ i * (4294967296 * c') := by rw [Nat.pow_succ, Nat.mul_assoc]
      rw [h6]
      omega
theorem sub_f (a b : List Int) (ha : WB 4294967296 a) (hb : WB 4294967296 b) (hle : VB 4294967296 b ≤ VB 4294967296 a) (hl : b.length ≤ a.length) (la : a.length < 35184372088831) :
    Ev (fun k => nat_sub.f k a b) (NB 4294967296 (VB 4294967296 a - VB 4294967296 b)) := by
  unfold nat_sub.f
  refine Ev.congr (fun k => ?_) (sub_l0 a b ha hb hle hl la _ 0 [] 0 rfl (by omega) rfl (WB_nil _) (by omega) ⟨by simp [VB]⟩)
  rw [if_pos (by omega), if_pos (by omega)]
  rfl
theorem Sub_f (a b : List Int) (ha : WB 4294967296 a) (hb : WB 4294967296 b) (la : a.length < 35184372088831) (lb : b.length < 35184372088831) :
    Ev (fun k => nat_Sub.f k a b) (if VB 4294967296 a < VB 4294967296 b then ([], false) else (NB 4294967296 (VB 4294967296 a - VB 4294967296 b), true)) := by
  unfold nat_Sub.f
  have h2 := NBV_len (by omega) hb
  have h3 := cmp_f a (NB 4294967296 (VB 4294967296 b)) ha (WB_NB _ _) (by omega) (by omega)
  rw [VB_NB (by omega)] at h3
  refine Ev.bind (trim_f b hb (by omega)) ?_
  refine Ev.bind h3 ?_
  unfold cmpN
  by_cases h : VB 4294967296 a < VB 4294967296 b
  · rw [if_pos h, if_pos h]
    refine Ev.congr (fun k => ?_) (Ev.now _)
    rw [if_pos (by omega)]
  · have h4 := sub_f a (NB 4294967296 (VB 4294967296 b)) ha (WB_NB _ _) (by rw [VB_NB (by omega)]; omega) (NB_length_le (by omega) _ _ (Nat.lt_of_le_of_lt (by omega) (VB_lt (by omega) ha))) la
    rw [VB_NB (by omega)] at h4
    rw [if_neg h, if_neg h]
    refine Ev.congr (fun k => ?_) (Ev.bind (f := fun _ t => some (t, true)) h4 (Ev.now _))
    rw [if_neg (by split <;> omega)]
end Go.Proofs.Ytafhcchjjlbojaa.ZNatP
