/- What the printed functions of nat come to, told of numbers: how many bits a number takes. -/
import Derived.Test.YtafhcchjjlbojaaNum
import Derived.Test.YtafhcchjjlbojaaNatA
import Derived.Test.YtafhcchjjlbojaaNatG
import Derived.Test.YtafhcchjjlbojaaNbits
import Derived.Test.YtafhcchjjlbojaaZNatgSize
namespace Go.Proofs.Ytafhcchjjlbojaa.ZNatP
open Go.RowKit Go.Proofs.YtafhcchjjlbojaaW.PrintWords Go.Proofs.YtafhcchjjlbojaaW.PrintLast Go.Proofs.YtafhcchjjlbojaaW.PrintMore Go.Proofs.Ytafhcchjjlbojaa.Num Go.Proofs.Ytafhcchjjlbojaa.ZNat
set_option linter.unusedVariables false
set_option linter.unusedSimpArgs false

theorem Bits_f (a : List Int) (ha : WB 4294967296 a) (la : a.length < 1000000000) : Ev (fun k => nat_Bits.f k a) ((nbits (VB 4294967296 a) : Nat) : Int) := by
  have l1 := NBV_len (b := 4294967296) (by omega) ha
  have h1 : Ev (fun k => nat_size.f k a) ((nbits (VB 4294967296 a) : Nat) : Int) := by
    unfold nat_size.f
    refine Ev.bind (trim_f a ha (by omega)) ?_
    generalize VB 4294967296 a = m at *
    rcases List.eq_nil_or_concat (NB 4294967296 m) with e | ⟨p, x, e⟩
    · have h0 := (NB_eq_nil (b := 4294967296) (by omega) m).1 e
      subst h0
      refine Ev.congr (fun k => ?_) (Ev.now _)
      rw [NB_zero, if_pos (by simp)]
      rfl
    · rw [List.concat_eq_append] at e
      have hx0 := NB_last (b := 4294967296) (by omega) m p x e
      have hW := WB_NB 4294967296 m
      have hv := VB_NB (b := 4294967296) (by omega) m
      rw [e] at hW hv l1 ⊢
      obtain ⟨hWp, hWx⟩ := WB_append.1 hW
      have hx := (WB_cons.1 hWx).1
      obtain ⟨x, rfl⟩ := Int.eq_ofNat_of_zero_le hx.1
      obtain ⟨L, a1, a2, a3, a4, a5⟩ := len_f x (by omega) (by omega)
      have hr : rd (p ++ [(x : Int)]) (p.length : Int) = (x : Int) := rd_mid p _ []
      have hl : (p ++ [(x : Int)]).length = p.length + 1 := by simp
      have hlow := VB_lt (b := 4294967296) (by omega) hWp
      rw [VB_snoc, Int.toNat_natCast] at hv
      have hp : (4294967296 : Nat) ^ p.length = 2 ^ (32 * p.length) := by rw [Nat.pow_mul]
      have hnb : nbits m = 32 * p.length + L := by
        have h6 := nbits_of m (32 * p.length + (L - 1)) (by
          rw [Nat.pow_add, ← hp, ← hv]
          exact Nat.le_trans (Nat.mul_le_mul_left _ a3) (Nat.le_add_left _ _)) (by
          rw [show 32 * p.length + (L - 1) + 1 = 32 * p.length + L from by omega, Nat.pow_add, ← hp, ← hv]
          have h7 : 4294967296 ^ p.length * (x + 1) ≤ 4294967296 ^ p.length * 2 ^ L := Nat.mul_le_mul_left _ a4
          rw [Nat.mul_add, Nat.mul_one] at h7
          omega)
        omega
      rw [hnb]
      have E1 := Aside0.mk (wpred (p.length + 1) (by omega))
      have E2 := Aside0.mk (w64in (32 * (p.length : Int)) (by omega) (by omega))
      have E3 := Aside0.mk (w64in (32 * (p.length : Int) + (L : Int)) (by omega) (by omega))
      have e4 : ((p.length + 1 : Nat) : Int) - 1 = (p.length : Int) := by omega
      clear hp hlow hv a3 a4 hnb
      refine Ev.congr (fun k => ?_) (Ev.now _)
      rw [hl, if_neg (by omega), E1.out, e4, if_pos (by omega), if_pos (by omega), hr, a5, Option.bind_some, E2.out, E3.out]
      congr 1
  unfold nat_Bits.f
  exact Ev.bind h1 (Ev.now _)
end Go.Proofs.Ytafhcchjjlbojaa.ZNatP
