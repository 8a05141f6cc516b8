/- What the printed functions of nat come to, told of numbers: Mul. -/
import Derived.Test.YtafhcchjjlbojaaNum
import Derived.Test.YtafhcchjjlbojaaNatA
import Derived.Test.YtafhcchjjlbojaaZNatgAdd
import Derived.Test.YtafhcchjjlbojaaZNatgCore
namespace Go.Proofs.Ytafhcchjjlbojaa.ZNatP
open Go.RowKit Go.Proofs.YtafhcchjjlbojaaW.PrintWords Go.Proofs.YtafhcchjjlbojaaW.PrintLast Go.Proofs.YtafhcchjjlbojaaW.PrintMore Go.Proofs.Ytafhcchjjlbojaa.Num Go.Proofs.Ytafhcchjjlbojaa.ZNat
set_option linter.unusedVariables false
set_option linter.unusedSimpArgs false

theorem mul_bound (x y : Nat) (hx : x < 4294967296) (hy : y < 4294967296) : x * y ≤ 18446744065119617025 := Nat.mul_le_mul (show x ≤ 4294967295 by omega) (show y ≤ 4294967295 by omega)
/-- The inner loop: one digit x of a, times b, put to out from place i on. -/
theorem Mul_l1 (a b : List Int) (hb : WB 4294967296 b) (i x : Nat) (hx : x < 4294967296) (n : Nat) (hn : n < 35184372088831) (hi : i + b.length < n) (S : Nat) (R : List Int) :
    (∀ out', out'.length = n → WB 4294967296 out' → (∀ m, i + 1 + b.length ≤ m → rd out' (m : Int) = 0) → Aside0 (VB 4294967296 out' = S + 4294967296 ^ i * (x * VB 4294967296 b)) →
      Ev (fun k => nat_Mul.l0 k b out' a (a.length : Int) (wrap64 ((i : Int) + 1))) R) →
    ∀ (d j : Nat) (out : List Int) (c : Nat), b.length - j = d → j ≤ b.length → out.length = n → WB 4294967296 out → c < 4294967296 → (∀ m, i + b.length ≤ m → rd out (m : Int) = 0) →
      Aside0 (VB 4294967296 out + 4294967296 ^ (i + j) * c = S + 4294967296 ^ i * (x * VB 4294967296 (b.take j))) →
    Ev (fun k => nat_Mul.l1 k b out (i : Int) (x : Int) (c : Int) a (a.length : Int) (i : Int) b (b.length : Int) (j : Int)) R := by
  intro hcont d
  induction d with
  | zero =>
    intro j out c hd hj ho hW hc hz he
    have hj' : j = b.length := by omega
    subst hj'
    have E1 := Aside0.mk (wadd i b.length (by omega))
    refine Ev.step (f := fun k => nat_Mul.l0 k b (out.set (i + b.length) (c : Int)) a (a.length : Int) (wrap64 ((i : Int) + 1))) (fun k => ?_) ?_
    · show nat_Mul.l1 (k + 1) b out (i : Int) (x : Int) (c : Int) a (a.length : Int) (i : Int) b (b.length : Int) (b.length : Int) = _
      simp only [nat_Mul.l1]
      rw [if_neg (by omega), E1.out, if_pos (by omega), if_pos (by omega), Int.toNat_natCast, show (c : Int) % 4294967296 = (c : Int) from by omega]
    · refine hcont _ (by rw [List.length_set]; exact ho) (WB_set hW _ _ (by omega) (by omega)) (fun m hm => ?_) ⟨?_⟩
      · rw [rd_set _ _ _ _ (by omega), if_neg (by omega)]
        exact hz m (by omega)
      · have h1 := VB_set 4294967296 out (i + b.length) (c : Int) (by omega)
        have h2 := he.out
        rw [hz (i + b.length) (Nat.le_refl _)] at h1
        rw [List.take_of_length_le (Nat.le_refl _)] at h2
        exact set_zero_step _ _ _ _ _ _ h1 h2
  | succ d ih =>
    intro j out c hd hj ho hW hc hz he
    have rb := WB_rd hb j (by omega)
    have ro := WB_rd hW (i + j) (by omega)
    obtain ⟨y, hy⟩ := Int.eq_ofNat_of_zero_le rb.1
    obtain ⟨z, hzz⟩ := Int.eq_ofNat_of_zero_le ro.1
    rw [hy] at rb
    rw [hzz] at ro
    have hp := mul_bound x y hx (by omega)
    have E1 := Aside0.mk (wadd i j (by omega))
    have E2 := Aside0.mk (wsucc j (by omega))
    have es : IntKind.u64.wrap ((c : Int) + IntKind.u64.wrap (IntKind.u64.wrap (z : Int) + IntKind.u64.wrap (IntKind.u64.wrap (x : Int) * IntKind.u64.wrap (y : Int)))) = ((c + (z + x * y) : Nat) : Int) := by
      rw [u64in (x : Int) (by omega) (by omega), u64in (y : Int) (by omega) (by omega), ← Int.natCast_mul]
      generalize x * y = p at *
      simp only [u64w]
      omega
    refine Ev.step (f := fun k => nat_Mul.l1 k b (out.set (i + j) (((c + (z + x * y)) % 4294967296 : Nat) : Int)) (i : Int) (x : Int) (((c + (z + x * y)) / 4294967296 : Nat) : Int) a (a.length : Int) (i : Int) b (b.length : Int) ((j + 1 : Nat) : Int)) (fun k => ?_) ?_
    · show nat_Mul.l1 (k + 1) b out (i : Int) (x : Int) (c : Int) a (a.length : Int) (i : Int) b (b.length : Int) (j : Int) = _
      simp only [nat_Mul.l1]
      rw [if_pos (by omega), if_pos (by omega), if_pos (by omega), E1.out, if_pos (by omega), if_pos (by omega), hy, hzz, es, E2.out, nmod32, ndiv32, Int.toNat_natCast]
    · have hq : (c + (z + x * y)) / 4294967296 < 4294967296 := by
        generalize x * y = p at *
        omega
      refine ih (j + 1) _ _ (by omega) (by omega) (by rw [List.length_set]; exact ho) (WB_set hW _ _ (by omega) (by omega)) hq (fun m hm => ?_) ⟨?_⟩
      · rw [rd_set _ _ _ _ (by omega), if_neg (by omega)]
        exact hz m hm
      · have h1 := VB_set 4294967296 out (i + j) (((c + (z + x * y)) % 4294967296 : Nat) : Int) (by omega)
        have h2 := he.out
        have h3 := VB_take_succ 4294967296 b j (by omega)
        rw [hzz] at h1
        rw [hy] at h3
        simp only [Int.toNat_natCast] at h1 h3
        exact mul_step _ i j c z x y _ _ _ _ S h1 h2 h3
theorem Mul_l0 (a b : List Int) (ha : WB 4294967296 a) (hb : WB 4294967296 b) (n : Nat) (hn : n < 35184372088831) (hl : n = a.length + b.length) : ∀ (d i : Nat) (out : List Int),
    a.length - i = d → i ≤ a.length → out.length = n → WB 4294967296 out → (∀ m, i + b.length ≤ m → rd out (m : Int) = 0) → Aside0 (VB 4294967296 out = VB 4294967296 (a.take i) * VB 4294967296 b) →
    Ev (fun k => nat_Mul.l0 k b out a (a.length : Int) (i : Int)) (NB 4294967296 (VB 4294967296 a * VB 4294967296 b)) := by
  intro d
  induction d with
  | zero =>
    intro i out hd hi ho hW hz he
    have hi' : i = a.length := by omega
    subst hi'
    have h3 := trim_own_f _ hW (by omega)
    rw [he.out, List.take_of_length_le (Nat.le_refl _)] at h3
    refine Ev.step (f := fun k => (nat_trim_own.f k out).bind fun t => some t) (fun k => ?_) (Ev.bind (f := fun _ t => some t) h3 (Ev.now _))
    show nat_Mul.l0 (k + 1) b out a (a.length : Int) (a.length : Int) = _
    simp only [nat_Mul.l0]
    rw [if_neg (by omega)]
  | succ d ih =>
    intro i out hd hi ho hW hz he
    have ra := WB_rd ha i (by omega)
    obtain ⟨x, hx⟩ := Int.eq_ofNat_of_zero_le ra.1
    have E2 := Aside0.mk (wsucc i (by omega))
    have h3 := VB_take_succ 4294967296 a i (by omega)
    have H3 := Aside0.mk h3
    clear h3
    rw [hx] at ra H3
    refine Ev.step (f := fun k => nat_Mul.l1 k b out (i : Int) (x : Int) ((0 : Nat) : Int) a (a.length : Int) (i : Int) b (b.length : Int) ((0 : Nat) : Int)) (fun k => ?_) ?_
    · show nat_Mul.l0 (k + 1) b out a (a.length : Int) (i : Int) = _
      simp only [nat_Mul.l0]
      rw [if_pos (by omega), if_pos (by omega), if_pos (by omega), hx]
      rfl
    · refine Mul_l1 a b hb i x (by omega) n hn (by omega) (VB 4294967296 (a.take i) * VB 4294967296 b) _ (fun out' ho' hW' hz' he' => ?_) _ 0 out 0 rfl (by omega) ho hW (by omega) hz ⟨?_⟩
      · rw [E2.out]
        refine ih (i + 1) out' (by omega) (by omega) ho' hW' (fun m hm => hz' m (by omega)) ⟨?_⟩
        rw [he'.out, H3.out, Nat.add_mul, Int.toNat_natCast, Nat.mul_assoc]
      · rw [he.out]
        simp [VB]
theorem Mul_f (a b : List Int) (ha : WB 4294967296 a) (hb : WB 4294967296 b) (hl : a.length + b.length < 35184372088831) :
    Ev (fun k => nat_Mul.f k a b) (NB 4294967296 (VB 4294967296 a * VB 4294967296 b)) := by
  unfold nat_Mul.f
  have E := Aside0.mk (wadd a.length b.length (by omega))
  refine Ev.congr (fun k => ?_) (Mul_l0 a b ha hb _ hl rfl _ 0 (List.replicate (a.length + b.length) 0) rfl (by omega) (by simp) (WB_rep _ _ (by omega)) (fun m _ => rd_rep _ m) ⟨by rw [VB_rep]; simp [VB]⟩)
  rw [E.out, if_pos (by omega), Int.toNat_natCast, if_pos (by omega)]
  rfl
end Go.Proofs.Ytafhcchjjlbojaa.ZNatP
