/- What the printed functions of nat come to, told of numbers: how many bits a word takes. -/
import Derived.Test.YtafhcchjjlbojaaNum
import Derived.Test.YtafhcchjjlbojaaZNatgCore
namespace Go.Proofs.Ytafhcchjjlbojaa.ZNatP
open Go.RowKit Go.Proofs.YtafhcchjjlbojaaW.PrintWords Go.Proofs.YtafhcchjjlbojaaW.PrintLast Go.Proofs.YtafhcchjjlbojaaW.PrintMore Go.Proofs.Ytafhcchjjlbojaa.Num Go.Proofs.Ytafhcchjjlbojaa.ZNat
set_option linter.unusedVariables false
set_option linter.unusedSimpArgs false

theorem len_small : ∀ n : Fin 256, bits_Len32.f ((n.val : Nat) : Int) = some ((if n.val = 0 then 0 else Nat.log2 n.val + 1 : Nat) : Int) := by decide +kernel
theorem len_mid (n : Nat) (h1 : 256 ≤ n) (h2 : n < 65536) (m : Nat) (h : bits_Len32.f ((n / 256 : Nat) : Int) = some (m : Int)) (hm : m ≤ 32) : bits_Len32.f (n : Int) = some ((m + 8 : Nat) : Int) := by
  unfold bits_Len32.f at h ⊢
  rw [if_neg (by omega), if_neg (by omega), if_pos (by omega), if_pos (by omega)] at h
  rw [if_neg (by omega), if_pos (by omega), if_pos (by omega), if_pos (by omega)]
  rw [show ((n / 256 : Nat) : Int) % 256 = ((n : Int) / 256) % 256 from by omega] at h
  generalize bt _ _ = y at h ⊢
  have h := Option.some.inj h
  congr 1
  unfold wrap64 at h ⊢
  omega
theorem len_big (n : Nat) (h1 : 65536 ≤ n) (h2 : n < 4294967296) (m : Nat) (h : bits_Len32.f ((n / 65536 : Nat) : Int) = some (m : Int)) (hm : m ≤ 32) : bits_Len32.f (n : Int) = some ((m + 16 : Nat) : Int) := by
  unfold bits_Len32.f at h ⊢
  rw [if_neg (by omega)] at h
  rw [if_pos (by omega)]
  by_cases h3 : 256 ≤ n / 65536
  · rw [if_pos (by omega), if_pos (by omega), if_pos (by omega)] at h
    rw [if_pos (by omega), if_pos (by omega), if_pos (by omega)]
    rw [show ((n / 65536 : Nat) : Int) / 256 % 256 = ((n : Int) / 65536) / 256 % 256 from by omega] at h
    generalize bt _ _ = y at h ⊢
    have h := Option.some.inj h
    congr 1
    unfold wrap64 at h ⊢
    omega
  · rw [if_neg (by omega), if_pos (by omega), if_pos (by omega)] at h
    rw [if_neg (by omega), if_pos (by omega), if_pos (by omega)]
    rw [show ((n / 65536 : Nat) : Int) % 256 = ((n : Int) / 65536) % 256 from by omega] at h
    generalize bt _ _ = y at h ⊢
    have h := Option.some.inj h
    congr 1
    unfold wrap64 at h ⊢
    omega
theorem len_one (n : Nat) (h0 : 0 < n) (h : n < 256) : ∃ L : Nat, 1 ≤ L ∧ L ≤ 8 ∧ 2 ^ (L - 1) ≤ n ∧ n < 2 ^ L ∧ bits_Len32.f (n : Int) = some (L : Int) := by
  have h1 := len_small ⟨n, h⟩
  simp only [show n ≠ 0 from by omega, if_false] at h1
  refine ⟨Nat.log2 n + 1, by omega, ?_, Nat.log2_self_le (by omega), Nat.lt_log2_self, h1⟩
  have : Nat.log2 n < 8 := (Nat.log2_lt (by omega)).2 (by omega)
  omega
theorem len_two (n : Nat) (h0 : 0 < n) (h : n < 65536) : ∃ L : Nat, 1 ≤ L ∧ L ≤ 16 ∧ 2 ^ (L - 1) ≤ n ∧ n < 2 ^ L ∧ bits_Len32.f (n : Int) = some (L : Int) := by
  rcases Nat.lt_or_ge n 256 with h1 | h1
  · obtain ⟨L, a, b, c, d, e⟩ := len_one n h0 h1
    exact ⟨L, a, by omega, c, d, e⟩
  · obtain ⟨L, a, b, c, d, e⟩ := len_one (n / 256) (by omega) (by omega)
    refine ⟨L + 8, by omega, by omega, ?_, ?_, len_mid n h1 h L e (by omega)⟩
    · rw [show L + 8 - 1 = (L - 1) + 8 from by omega, Nat.pow_add]
      omega
    · rw [Nat.pow_add]
      omega
theorem len_f (n : Nat) (h0 : 0 < n) (h : n < 4294967296) : ∃ L : Nat, 1 ≤ L ∧ L ≤ 32 ∧ 2 ^ (L - 1) ≤ n ∧ n < 2 ^ L ∧ bits_Len32.f (n : Int) = some (L : Int) := by
  rcases Nat.lt_or_ge n 65536 with h1 | h1
  · obtain ⟨L, a, b, c, d, e⟩ := len_two n h0 h1
    exact ⟨L, a, by omega, c, d, e⟩
  · obtain ⟨L, a, b, c, d, e⟩ := len_two (n / 65536) (by omega) (by omega)
    refine ⟨L + 16, by omega, by omega, ?_, ?_, len_big n h1 h L e (by omega)⟩
    · rw [show L + 16 - 1 = (L - 1) + 16 from by omega, Nat.pow_add]
      omega
    · rw [Nat.pow_add]
      omega
theorem zeros_f (n : Nat) (h0 : 0 < n) (h : n < 4294967296) : ∃ s : Nat, s < 32 ∧ 2147483648 ≤ n * 2 ^ s ∧ n * 2 ^ s < 4294967296 ∧ bits_LeadingZeros32.f (n : Int) = some (s : Int) := by
  obtain ⟨L, a, b, c, d, e⟩ := len_f n h0 h
  have h1 : 2 ^ (L - 1) * 2 ^ (32 - L) = 2147483648 := by
    rw [← Nat.pow_add, show L - 1 + (32 - L) = 31 from by omega]
  have h2 : 2 ^ L * 2 ^ (32 - L) = 4294967296 := by
    rw [← Nat.pow_add, show L + (32 - L) = 32 from by omega]
  refine ⟨32 - L, by omega, ?_, ?_, ?_⟩
  · rw [← h1]
    exact Nat.mul_le_mul_right _ c
  · rw [← h2]
    exact Nat.mul_lt_mul_of_pos_right d (Nat.two_pow_pos _)
  · unfold bits_LeadingZeros32.f
    rw [e, Option.bind_some, show (32 : Int) = ((32 : Nat) : Int) from rfl, wsub 32 L (by omega) b]
end Go.Proofs.Ytafhcchjjlbojaa.ZNatP
