/- What the printed functions of nat come to, told of numbers: division by one word. -/
import Derived.Test.YtafhcchjjlbojaaNum
import Derived.Test.YtafhcchjjlbojaaZNatgCore
namespace Go.Proofs.Ytafhcchjjlbojaa.ZNatP
open Go.RowKit Go.Proofs.YtafhcchjjlbojaaW.PrintWords Go.Proofs.YtafhcchjjlbojaaW.PrintLast Go.Proofs.YtafhcchjjlbojaaW.PrintMore Go.Proofs.Ytafhcchjjlbojaa.Num Go.Proofs.Ytafhcchjjlbojaa.ZNat
set_option linter.unusedVariables false
set_option linter.unusedSimpArgs false

theorem div_step (b y x V q r : Nat) (hb : 0 < b) (hy : 0 < y) (hq : q = V / y) (hr : r = V % y) : (x + b * V) / y = b * q + (r * b + x) / y ∧ (x + b * V) % y = (r * b + x) % y := by
  have h1 := Nat.div_add_mod V y
  rw [← hq, ← hr] at h1
  have h2 : x + b * V = (r * b + x) + y * (b * q) := by rw [← h1]; grind
  constructor
  · rw [h2, Nat.add_mul_div_left _ _ hy, Nat.add_comm]
  · rw [h2, Nat.add_mul_mod_self_left]
/-- short: a is the number, y the divisor; of a the digits from i on are quotient's already. -/
theorem short_l0 (y : Nat) (hy : 0 < y) (hy2 : y < 4294967296) : ∀ (a : List Int) (i : Nat), a.length = i → WB 4294967296 a → i < 35184372088831 → ∀ (q : List Int) (V r : Nat), WB 4294967296 q → Aside0 (VB 4294967296 q = V / y) → Aside0 (r = V % y) →
    ∃ z : List Int, z.length = a.length + q.length ∧ WB 4294967296 z ∧ VB 4294967296 z = (VB 4294967296 a + 4294967296 ^ i * V) / y ∧
      Ev (fun k => nat_short.l0 k (a ++ q) (y : Int) (r : Int) ((i : Int) - 1)) (((((VB 4294967296 a + 4294967296 ^ i * V) % y : Nat)) : Int), z) := by
  intro a i
  induction i generalizing a with
  | zero =>
    intro hl hW hb q V r hWq hq hr
    obtain rfl := List.length_eq_zero_iff.1 hl
    refine ⟨q, by simp, hWq, by simp [VB, hq.out], ?_⟩
    have hr2 := hr.out
    have hr3 : V % y < y := Nat.mod_lt _ hy
    refine Ev.step (f := fun _ => some (((V % y : Nat) : Int), q)) (fun k => ?_) (by simp only [VB, Nat.pow_zero, Nat.one_mul, Nat.zero_add]; exact Ev.now _)
    show nat_short.l0 (k + 1) ([] ++ q) (y : Int) (r : Int) _ = _
    simp only [nat_short.l0]
    rw [if_neg (by omega), ← hr2, show (r : Int) % 4294967296 = (r : Int) from by omega]
    rfl
  | succ i ih =>
    intro hl hW hb q V r hWq hq hr
    rcases List.eq_nil_or_concat a with rfl | ⟨m, x, rfl⟩
    · simp at hl
    rw [List.concat_eq_append] at *
    have hm : m.length = i := by simpa using hl
    obtain ⟨hWm, hWx⟩ := WB_append.1 hW
    have hx := (WB_cons.1 hWx).1
    obtain ⟨x, rfl⟩ := Int.eq_ofNat_of_zero_le hx.1
    have hr3 : V % y < y := Nat.mod_lt _ hy
    have hrr := hr.out
    have hs := div_step 4294967296 y x V _ r (by omega) hy hq.out hrr
    have HS := Aside0.mk hs
    clear hs
    have hq1 : (r * 4294967296 + x) / y < 4294967296 := by
      rw [Nat.div_lt_iff_lt_mul hy]
      have : (r + 1) * 4294967296 ≤ y * 4294967296 := Nat.mul_le_mul_right _ (by omega)
      rw [Nat.mul_comm 4294967296 y]
      omega
    have HQ1 := Aside0.mk hq1
    have hr1 : (r * 4294967296 + x) % y < y := Nat.mod_lt _ hy
    have ho := or32 r x (by omega) (by omega)
    have HO := Aside0.mk ho
    clear ho
    have HY := Aside0.mk (u64in (y : Int) (by omega) (by omega))
    have HP := Aside0.mk (wpred i (by omega))
    have hWq2 : WB 4294967296 ((((r * 4294967296 + x) / y : Nat) : Int) :: q) := WB_cons.2 ⟨⟨Int.natCast_nonneg _, by exact_mod_cast hq1⟩, hWq⟩
    obtain ⟨z, hz1, hz2, hz3, hz4⟩ := ih m hm hWm (by omega) _ (x + 4294967296 * V) ((r * 4294967296 + x) % y) hWq2 ⟨by rw [HS.out.1]; simp only [VB, Int.toNat_natCast, hq.out]; omega⟩ ⟨by rw [HS.out.2]⟩
    have hval : VB 4294967296 (m ++ [(x : Int)]) + 4294967296 ^ (i + 1) * V = VB 4294967296 m + 4294967296 ^ i * (x + 4294967296 * V) := by
      rw [VB_snoc, hm, Int.toNat_natCast, Nat.mul_add, Nat.pow_succ, Nat.mul_assoc, Nat.add_assoc]
    rw [hval]
    refine ⟨z, by rw [hz1]; simp; omega, hz2, hz3, Ev.step (fun k => ?_) hz4⟩
    show nat_short.l0 (k + 1) (m ++ [(x : Int)] ++ q) (y : Int) (r : Int) _ = _
    rw [List.append_assoc, List.singleton_append]
    have hrd : rd (m ++ (x : Int) :: q) (i : Int) = (x : Int) := by rw [← hm]; exact rd_mid m _ q
    have hst : (m ++ (x : Int) :: q).set i (((r * 4294967296 + x) / y : Nat) : Int) = m ++ (((r * 4294967296 + x) / y : Nat) : Int) :: q := by rw [← hm]; exact set_mid m _ _ q
    have hln : (m ++ (x : Int) :: q).length = i + 1 + q.length := by simp; omega
    have HRD := Aside0.mk hrd
    have HST := Aside0.mk hst
    clear hrd hst
    simp only [nat_short.l0]
    rw [show ((i + 1 : Nat) : Int) - 1 = (i : Int) from by omega, if_pos (by omega), if_pos (by omega), if_pos (by omega), HY.out, if_neg (by omega), HRD.out, HO.out, tdivN, tmodN, HP.out, u64in ((((r * 4294967296 + x) / y : Nat)) : Int) (Int.natCast_nonneg _) (by have := HQ1.out; generalize (r * 4294967296 + x) / y = g at *; omega), nmod32, Nat.mod_eq_of_lt HQ1.out, Int.toNat_natCast, HST.out]
theorem short_f (a : List Int) (y : Nat) (hy : 0 < y) (hy2 : y < 4294967296) (hW : WB 4294967296 a) (hl : a.length < 35184372088831) :
    ∃ z : List Int, z.length = a.length ∧ WB 4294967296 z ∧ VB 4294967296 z = VB 4294967296 a / y ∧ Ev (fun k => nat_short.f k a (y : Int)) (((VB 4294967296 a % y : Nat) : Int), z) := by
  obtain ⟨z, h1, h2, h3, h4⟩ := short_l0 y hy hy2 a _ rfl hW hl [] 0 0 (WB_nil _) ⟨by simp [VB]⟩ ⟨by simp⟩
  rw [Nat.mul_zero, Nat.add_zero] at h3 h4
  refine ⟨z, by simpa using h1, h2, h3, ?_⟩
  unfold nat_short.f
  refine Ev.congr (fun k => ?_) h4
  rw [wpred _ (by omega), List.append_nil]
  rfl

/-- shift: c below 2^s is carried. -/
theorem shift_l0 (a : List Int) (s : Nat) (hs : s < 32) (ha : WB 4294967296 a) (hl : a.length < 35184372088831) : ∀ (d i : Nat) (out : List Int) (c : Nat), a.length - i = d → i ≤ a.length → out.length = i → WB 4294967296 out → Aside0 (c < 2 ^ s) →
    Aside0 (VB 4294967296 out + 4294967296 ^ i * c = 2 ^ s * VB 4294967296 (a.take i)) →
    ∃ z : List Int, z.length = a.length + 1 ∧ WB 4294967296 z ∧ VB 4294967296 z = 2 ^ s * VB 4294967296 a ∧ Ev (fun k => nat_shift.l0 k (s : Int) out (c : Int) a (a.length : Int) (i : Int)) z := by
  intro d
  have hp : 2 ^ s ≤ 2147483648 := by
    have := Nat.pow_le_pow_right (show 0 < 2 by omega) (show s ≤ 31 by omega)
    exact this
  induction d with
  | zero =>
    intro i out c hd hi ho hW hc he
    have hi' : i = a.length := by omega
    subst hi'
    have hc2 := hc.out
    refine ⟨out ++ [(c : Int)], by simp [ho], WB_append.2 ⟨hW, WB_cons.2 ⟨by omega, WB_nil _⟩⟩, ?_, ?_⟩
    · have := he.out
      rw [List.take_of_length_le (Nat.le_refl _)] at this
      rw [VB_snoc, ho, Int.toNat_natCast, this]
    · refine Ev.step (f := fun _ => some (out ++ [(c : Int)])) (fun k => ?_) (Ev.now _)
      show nat_shift.l0 (k + 1) (s : Int) out (c : Int) a (a.length : Int) (a.length : Int) = _
      simp only [nat_shift.l0]
      rw [if_neg (by omega), if_pos (by omega), show (c : Int) % 4294967296 = (c : Int) from by omega]
  | succ d ih =>
    intro i out c hd hi ho hW hc he
    have ra := WB_rd ha i (by omega)
    obtain ⟨x, hx⟩ := Int.eq_ofNat_of_zero_le ra.1
    have TA := Aside0.mk (VB_take_succ 4294967296 a i (by omega))
    rw [hx] at ra TA
    have hc2 := hc.out
    have hxs : x * 2 ^ s < 18446744073709551616 := by
      have : x * 2 ^ s ≤ 4294967295 * 2147483648 := Nat.mul_le_mul (by omega) hp
      omega
    have hsh : shl .u64 (IntKind.u64.wrap (x : Int)) (s : Int) = ((x * 2 ^ s : Nat) : Int) := by
      unfold shl
      rw [u64in (x : Int) (by omega) (by omega), Int.toNat_natCast, show IntKind.u64.bits = 64 from rfl, Nat.min_eq_left (by omega)]
      have e : (x : Int) * 2 ^ s = ((x * 2 ^ s : Nat) : Int) := by simp
      rw [e]
      exact u64in _ (by omega) (by omega)
    have hor := orlow c (x * 2 ^ s) s (by omega) hc2 (Nat.mul_mod_left _ _) hxs
    have hdiv : (c + x * 2 ^ s) / 4294967296 < 2 ^ s := by
      rw [Nat.div_lt_iff_lt_mul (by omega)]
      have : (x + 1) * 2 ^ s ≤ 4294967296 * 2 ^ s := Nat.mul_le_mul_right _ (by omega)
      rw [Nat.add_mul, Nat.one_mul] at this
      rw [Nat.mul_comm (2 ^ s)]
      exact Nat.lt_of_lt_of_le (by omega) this
    have HSH := Aside0.mk hsh
    have HOR := Aside0.mk hor
    have HD := Aside0.mk hdiv
    have E2 := Aside0.mk (wsucc i (by omega))
    clear hsh hor hdiv hxs
    obtain ⟨z, h1, h2, h3, h4⟩ := ih (i + 1) (out ++ [(((c + x * 2 ^ s) % 4294967296 : Nat) : Int)]) ((c + x * 2 ^ s) / 4294967296) (by omega) (by omega) (by simp [ho]) (WB_append.2 ⟨hW, WB_cons.2 ⟨by omega, WB_nil _⟩⟩) HD ⟨by
      rw [VB_snoc, ho, Int.toNat_natCast, carry_step, TA.out, Int.toNat_natCast, Nat.mul_add, Nat.mul_add, ← Nat.add_assoc, he.out]
      congr 1
      rw [Nat.mul_comm x, Nat.mul_left_comm]⟩
    refine ⟨z, h1, h2, h3, Ev.step (fun k => ?_) h4⟩
    show nat_shift.l0 (k + 1) (s : Int) out (c : Int) a (a.length : Int) (i : Int) = _
    simp only [nat_shift.l0]
    rw [if_pos (by omega), if_pos (by omega), if_pos (by omega), if_pos (by omega), if_pos (by omega), hx, HSH.out, HOR.out, nmod32, ndiv32, E2.out]
theorem shift_f (a : List Int) (s : Nat) (hs : s < 32) (ha : WB 4294967296 a) (hl : a.length < 35184372088831) :
    ∃ z : List Int, z.length = a.length + 1 ∧ WB 4294967296 z ∧ VB 4294967296 z = 2 ^ s * VB 4294967296 a ∧ Ev (fun k => nat_shift.f k a (s : Int)) z := by
  obtain ⟨z, h1, h2, h3, h4⟩ := shift_l0 a s hs ha hl _ 0 [] 0 rfl (by omega) rfl (WB_nil _) ⟨Nat.two_pow_pos s⟩ ⟨by simp [VB]⟩
  refine ⟨z, h1, h2, h3, ?_⟩
  unfold nat_shift.f
  refine Ev.congr (fun k => ?_) h4
  rw [wsucc _ (by omega), if_pos (by omega), Int.toNat_natCast, if_pos (by omega)]
  rfl
end Go.Proofs.Ytafhcchjjlbojaa.ZNatP
