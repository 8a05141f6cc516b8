/- What the printed functions of the reference for nat come to, told of numbers: difference and product. -/
import Derived.Test.YtafhcchjjlbojaaNum
import Derived.Test.YtafhcchjjlbojaaRefA
import Derived.Test.YtafhcchjjlbojaaRefB
import Derived.Test.YtafhcchjjlbojaaZNatgRAdd
import Derived.Test.YtafhcchjjlbojaaZNatgRTrim
namespace Go.Proofs.Ytafhcchjjlbojaa.ZNatP
open Go.RowKit Go.Proofs.YtafhcchjjlbojaaW.PrintWords Go.Proofs.YtafhcchjjlbojaaW.PrintLast Go.Proofs.YtafhcchjjlbojaaW.PrintMore Go.Proofs.Ytafhcchjjlbojaa.Num Go.Proofs.Ytafhcchjjlbojaa.ZNat
set_option linter.unusedVariables false
set_option linter.unusedSimpArgs false

theorem RSub_l0 (a b : List Int) (ha : WB 65536 a) (hb : WB 65536 b) (hle : VB 65536 b ≤ VB 65536 a) (hl : b.length ≤ a.length) (la : a.length < 17592186044415) : ∀ (d i : Nat) (out : List Int) (c : Nat),
    a.length - i = d → i ≤ a.length → out.length = i → WB 65536 out → c ≤ 1 → Aside0 (VB 65536 out + VB 65536 (b.take i) = VB 65536 (a.take i) + 65536 ^ i * c) →
    Ev (fun k => zelligeref03_Sub.l0 k a b out (c : Int) (i : Int)) (NB 65536 (VB 65536 a - VB 65536 b)) := by
  intro d
  induction d with
  | zero =>
    intro i out c hd hi ho hW hc he
    have hi' : i = a.length := by omega
    subst hi'
    have he := he.out
    rw [List.take_of_length_le (Nat.le_refl _), List.take_of_length_le hl] at he
    have h1 := VB_lt (by omega) hW
    rw [ho] at h1
    have hc0 : c = 0 := by
      rcases Nat.eq_zero_or_pos c with h | h
      · exact h
      · have : c = 1 := by omega
        subst this
        omega
    subst hc0
    have hv : VB 65536 out = VB 65536 a - VB 65536 b := by omega
    have h3 := RTrim_f _ hW (by omega)
    rw [hv] at h3
    refine Ev.step (f := fun k => (zelligeref03_Trim.f k out).bind fun t => some t) (fun k => ?_) (Ev.bind h3 (Ev.now _))
    show zelligeref03_Sub.l0 (k + 1) a b out ((0 : Nat) : Int) (a.length : Int) = _
    simp only [zelligeref03_Sub.l0]
    rw [if_neg (by omega)]
  | succ d ih =>
    intro i out c hd hi ho hW hc he
    have ra := WB_rd ha i (by omega)
    have TA := Aside0.mk (take_all_rd 65536 a i)
    have TB := Aside0.mk (take_all_rd 65536 b i)
    have E2 := Aside0.mk (wsucc i (by omega))
    obtain ⟨x, hx⟩ := Int.eq_ofNat_of_zero_le ra.1
    rw [hx] at ra
    have hia : i < a.length := by omega
    -- a step with the digit z
    have go : ∀ y z c' : Nat, z < 65536 → c' ≤ 1 → (if i < b.length then (rd b (i : Int)).toNat else 0) = y → z + y + c = x + 65536 * c' →
        Ev (fun k => zelligeref03_Sub.l0 k a b (out ++ [(z : Int)]) (c' : Int) ((i + 1 : Nat) : Int)) (NB 65536 (VB 65536 a - VB 65536 b)) := by
      intro y z c' hz hc' ey hs
      refine ih (i + 1) _ _ (by omega) (by omega) (by simp [ho]) (WB_append.2 ⟨hW, WB_cons.2 ⟨by omega, WB_nil _⟩⟩) hc' ⟨?_⟩
      have ta := TA.out
      have tb := TB.out
      rw [if_pos hia, hx, Int.toNat_natCast] at ta
      rw [ey] at tb
      rw [VB_snoc, ho, Int.toNat_natCast, ta, tb]
      have h5 : 65536 ^ i * (z + y + c) = 65536 ^ i * (x + 65536 * c') := by rw [hs]
      rw [Nat.mul_add, Nat.mul_add, Nat.mul_add] at h5
      have h6 : 65536 ^ (i + 1) * c' = 65536 ^ i * (65536 * c') := by rw [Nat.pow_succ, Nat.mul_assoc]
      rw [h6]
      have := he.out
      omega
    have E4 : Aside0 (wrap64 ((x : Int) - (c : Int)) = (x : Int) - (c : Int)) := ⟨w64in _ (by omega) (by omega)⟩
    by_cases h2 : i < b.length
    · have q := WB_rd hb i h2
      obtain ⟨y, hy⟩ := Int.eq_ofNat_of_zero_le q.1
      rw [hy] at q
      have ey : (if i < b.length then (rd b (i : Int)).toNat else 0) = y := by rw [if_pos h2, hy]; rfl
      have E5 : Aside0 (wrap64 ((x : Int) - (c : Int) - (y : Int)) = (x : Int) - (c : Int) - (y : Int)) := ⟨w64in _ (by omega) (by omega)⟩
      by_cases hn : x < y + c
      · have E6 : Aside0 (wrap64 ((x : Int) - (c : Int) - (y : Int) + 65536) = ((x + 65536 - c - y : Nat) : Int)) := ⟨by rw [w64in _ (by omega) (by omega)]; omega⟩
        refine Ev.step (fun k => ?_) (go y (x + 65536 - c - y) 1 (by omega) (by omega) ey (by omega))
        show zelligeref03_Sub.l0 (k + 1) a b out (c : Int) (i : Int) = _
        simp only [zelligeref03_Sub.l0]
        rw [if_pos (by omega), if_pos (by omega), if_pos (by omega), hx, hy, E4.out, E5.out, if_pos (by omega), if_pos (by omega), E6.out, E2.out]
        rfl
      · refine Ev.step (fun k => ?_) (go y (x - c - y) 0 (by omega) (by omega) ey (by omega))
        show zelligeref03_Sub.l0 (k + 1) a b out (c : Int) (i : Int) = _
        simp only [zelligeref03_Sub.l0]
        rw [if_pos (by omega), if_pos (by omega), if_pos (by omega), hx, hy, E4.out, E5.out, if_neg (by omega), if_pos (by omega), show (x : Int) - (c : Int) - (y : Int) = ((x - c - y : Nat) : Int) from by omega, E2.out]
        rfl
    · have ey : (if i < b.length then (rd b (i : Int)).toNat else 0) = 0 := by rw [if_neg h2]
      by_cases hn : x < c
      · have E6 : Aside0 (wrap64 ((x : Int) - (c : Int) + 65536) = ((x + 65536 - c : Nat) : Int)) := ⟨by rw [w64in _ (by omega) (by omega)]; omega⟩
        refine Ev.step (fun k => ?_) (go 0 (x + 65536 - c) 1 (by omega) (by omega) ey (by omega))
        show zelligeref03_Sub.l0 (k + 1) a b out (c : Int) (i : Int) = _
        simp only [zelligeref03_Sub.l0]
        rw [if_pos (by omega), if_pos (by omega), if_neg (by omega), hx, E4.out, if_pos (by omega), if_pos (by omega), E6.out, E2.out]
        rfl
      · refine Ev.step (fun k => ?_) (go 0 (x - c) 0 (by omega) (by omega) ey (by omega))
        show zelligeref03_Sub.l0 (k + 1) a b out (c : Int) (i : Int) = _
        simp only [zelligeref03_Sub.l0]
        rw [if_pos (by omega), if_pos (by omega), if_neg (by omega), hx, E4.out, if_neg (by omega), if_pos (by omega), show (x : Int) - (c : Int) = ((x - c : Nat) : Int) from by omega, E2.out]
        rfl
theorem RSub_f (m n : Nat) (h : n ≤ m) (hl : (NB 65536 m).length < 17592186044415) : Ev (fun k => zelligeref03_Sub.f k (NB 65536 m) (NB 65536 n)) (NB 65536 (m - n)) := by
  have := RSub_l0 (NB 65536 m) (NB 65536 n) (WB_NB _ _) (WB_NB _ _) (by rw [VB_NB (by omega), VB_NB (by omega)]; exact h) (NB_length_mono (by omega) h) hl _ 0 [] 0 rfl (by omega) rfl (WB_nil _) (by omega) ⟨by simp [VB]⟩
  rw [VB_NB (by omega), VB_NB (by omega)] at this
  exact this
theorem Rmul_bound (x y : Nat) (hx : x < 65536) (hy : y < 65536) : x * y ≤ 4294836225 := Nat.mul_le_mul (show x ≤ 65535 by omega) (show y ≤ 65535 by omega)
theorem RMul_l1 (a b : List Int) (hb : WB 65536 b) (i x : Nat) (hia : i < a.length) (hxe : rd a (i : Int) = (x : Int)) (hx : x < 65536) (n : Nat) (hn : n < 17592186044415) (hi : i + b.length < n) (S : Nat) (R : List Int) :
    (∀ out', out'.length = n → WB 65536 out' → (∀ m, i + 1 + b.length ≤ m → rd out' (m : Int) = 0) → Aside0 (VB 65536 out' = S + 65536 ^ i * (x * VB 65536 b)) →
      Ev (fun k => zelligeref03_Mul.l0 k a b out' (wrap64 ((i : Int) + 1))) R) →
    ∀ (d j : Nat) (out : List Int) (c : Nat), b.length - j = d → j ≤ b.length → out.length = n → WB 65536 out → c < 65536 → (∀ m, i + b.length ≤ m → rd out (m : Int) = 0) →
      Aside0 (VB 65536 out + 65536 ^ (i + j) * c = S + 65536 ^ i * (x * VB 65536 (b.take j))) →
    Ev (fun k => zelligeref03_Mul.l1 k a b out (i : Int) (c : Int) (j : Int)) R := by
  intro hcont d
  induction d with
  | zero =>
    intro j out c hd hj ho hW hc hz he
    have hj' : j = b.length := by omega
    subst hj'
    have E1 := Aside0.mk (wadd i b.length (by omega))
    refine Ev.step (f := fun k => zelligeref03_Mul.l0 k a b (out.set (i + b.length) (c : Int)) (wrap64 ((i : Int) + 1))) (fun k => ?_) ?_
    · show zelligeref03_Mul.l1 (k + 1) a b out (i : Int) (c : Int) (b.length : Int) = _
      simp only [zelligeref03_Mul.l1]
      rw [if_neg (by omega), E1.out, if_pos (by omega), if_pos (by omega), Int.toNat_natCast]
    · refine hcont _ (by rw [List.length_set]; exact ho) (WB_set hW _ _ (by omega) (by omega)) (fun m hm => ?_) ⟨?_⟩
      · rw [rd_set _ _ _ _ (by omega), if_neg (by omega)]
        exact hz m (by omega)
      · have h1 := VB_set 65536 out (i + b.length) (c : Int) (by omega)
        have h2 := he.out
        rw [hz (i + b.length) (Nat.le_refl _)] at h1
        rw [List.take_of_length_le (Nat.le_refl _)] at h2
        exact set_zero_step _ _ _ _ _ _ h1 h2
  | succ d ih =>
    intro j out c hd hj ho hW hc hz he
    have rb := WB_rd hb j (by omega)
    have ro := WB_rd hW (i + j) (by omega)
    obtain ⟨y, hy⟩ := Int.eq_ofNat_of_zero_le rb.1
    obtain ⟨z, hzz⟩ := Int.eq_ofNat_of_zero_le ro.1
    rw [hy] at rb
    rw [hzz] at ro
    have hp := Rmul_bound x y hx (by omega)
    have E1 := Aside0.mk (wadd i j (by omega))
    have E2 := Aside0.mk (wsucc j (by omega))
    have ES : Aside0 (wrap64 ((c : Int) + (z : Int)) + wrap64 ((x : Int) * (y : Int)) = ((c + (z + x * y) : Nat) : Int)) := ⟨by
      rw [← Int.natCast_mul]
      generalize x * y = p at *
      rw [w64in (p : Int) (by omega) (by omega), w64in ((c : Int) + (z : Int)) (by omega) (by omega)]
      omega⟩
    have hsm : c + (z + x * y) < 4611686018427387904 := by
      generalize x * y = p at *
      omega
    obtain ⟨r1, r2⟩ := r16 (c + (z + x * y)) hsm
    have R1 := Aside0.mk r1
    have R2 := Aside0.mk r2
    clear r1 r2 hsm
    refine Ev.step (f := fun k => zelligeref03_Mul.l1 k a b (out.set (i + j) (((c + (z + x * y)) % 65536 : Nat) : Int)) (i : Int) (((c + (z + x * y)) / 65536 : Nat) : Int) ((j + 1 : Nat) : Int)) (fun k => ?_) ?_
    · show zelligeref03_Mul.l1 (k + 1) a b out (i : Int) (c : Int) (j : Int) = _
      simp only [zelligeref03_Mul.l1]
      rw [if_pos (by omega), E1.out, if_pos (by omega), if_pos (by omega), if_pos (by omega), if_pos (by omega), if_pos (by omega), hy, hxe, hzz, ES.out, R1.out, R2.out, E2.out, Int.toNat_natCast]
    · have hq : (c + (z + x * y)) / 65536 < 65536 := by
        generalize x * y = p at *
        omega
      refine ih (j + 1) _ _ (by omega) (by omega) (by rw [List.length_set]; exact ho) (WB_set hW _ _ (by omega) (by omega)) hq (fun m hm => ?_) ⟨?_⟩
      · rw [rd_set _ _ _ _ (by omega), if_neg (by omega)]
        exact hz m hm
      · have h1 := VB_set 65536 out (i + j) (((c + (z + x * y)) % 65536 : Nat) : Int) (by omega)
        have h2 := he.out
        have h3 := VB_take_succ 65536 b j (by omega)
        rw [hzz] at h1
        rw [hy] at h3
        simp only [Int.toNat_natCast] at h1 h3
        exact mul_step _ i j c z x y _ _ _ _ S h1 h2 h3
theorem RMul_l0 (a b : List Int) (ha : WB 65536 a) (hb : WB 65536 b) (n : Nat) (hn : n < 17592186044415) (hl : n = a.length + b.length) : ∀ (d i : Nat) (out : List Int),
    a.length - i = d → i ≤ a.length → out.length = n → WB 65536 out → (∀ m, i + b.length ≤ m → rd out (m : Int) = 0) → Aside0 (VB 65536 out = VB 65536 (a.take i) * VB 65536 b) →
    Ev (fun k => zelligeref03_Mul.l0 k a b out (i : Int)) (NB 65536 (VB 65536 a * VB 65536 b)) := by
  intro d
  induction d with
  | zero =>
    intro i out hd hi ho hW hz he
    have hi' : i = a.length := by omega
    subst hi'
    have h3 := RTrim_f _ hW (by omega)
    rw [he.out, List.take_of_length_le (Nat.le_refl _)] at h3
    refine Ev.step (f := fun k => (zelligeref03_Trim.f k out).bind fun t => some t) (fun k => ?_) (Ev.bind (f := fun _ t => some t) h3 (Ev.now _))
    show zelligeref03_Mul.l0 (k + 1) a b out (a.length : Int) = _
    simp only [zelligeref03_Mul.l0]
    rw [if_neg (by omega)]
  | succ d ih =>
    intro i out hd hi ho hW hz he
    have ra := WB_rd ha i (by omega)
    obtain ⟨x, hx⟩ := Int.eq_ofNat_of_zero_le ra.1
    have E2 := Aside0.mk (wsucc i (by omega))
    have H3 := Aside0.mk (VB_take_succ 65536 a i (by omega))
    rw [hx] at ra H3
    refine Ev.step (f := fun k => zelligeref03_Mul.l1 k a b out (i : Int) ((0 : Nat) : Int) ((0 : Nat) : Int)) (fun k => ?_) ?_
    · show zelligeref03_Mul.l0 (k + 1) a b out (i : Int) = _
      simp only [zelligeref03_Mul.l0]
      rw [if_pos (by omega)]
      rfl
    · refine RMul_l1 a b hb i x (by omega) hx (by omega) n hn (by omega) (VB 65536 (a.take i) * VB 65536 b) _ (fun out' ho' hW' hz' he' => ?_) _ 0 out 0 rfl (by omega) ho hW (by omega) hz ⟨?_⟩
      · rw [E2.out]
        refine ih (i + 1) out' (by omega) (by omega) ho' hW' (fun m hm => hz' m (by omega)) ⟨?_⟩
        rw [he'.out, H3.out, Nat.add_mul, Int.toNat_natCast, Nat.mul_assoc]
      · rw [he.out]
        simp [VB]
theorem RMul_f (a b : List Int) (ha : WB 65536 a) (hb : WB 65536 b) (hl : a.length + b.length < 17592186044415) :
    Ev (fun k => zelligeref03_Mul.f k a b) (NB 65536 (VB 65536 a * VB 65536 b)) := by
  unfold zelligeref03_Mul.f
  have E := Aside0.mk (wadd a.length b.length (by omega))
  refine Ev.congr (fun k => ?_) (RMul_l0 a b ha hb _ hl rfl _ 0 (List.replicate (a.length + b.length) 0) rfl (by omega) (by simp) (WB_rep _ _ (by omega)) (fun m _ => rd_rep _ m) ⟨by rw [VB_rep]; simp [VB]⟩)
  rw [E.out, if_pos (by omega), Int.toNat_natCast, if_pos (by omega)]
  rfl
end Go.Proofs.Ytafhcchjjlbojaa.ZNatP
