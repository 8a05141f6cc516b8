/- What the printed functions of the reference for nat come to, told of numbers: showing in decimal. -/
import Derived.Test.YtmfmojldebhboaaDoorShA
import Derived.Test.YtmfmojldebhboaaDoorStr
namespace Go.Proofs.YtmfmojldebhboaaDoor.ZSP
open Go.RowKit Go.Proofs.YtmfmojldebhboaaDoorW.PrintWords Go.Proofs.YtmfmojldebhboaaDoorW.PrintLast Go.Proofs.YtmfmojldebhboaaDoorW.PrintMore Go.Proofs.YtmfmojldebhboaaDoor.Num Go.Proofs.YtmfmojldebhboaaDoor.ZS
set_option linter.unusedVariables false
set_option linter.unusedSimpArgs false

/-- One digit of a short division, from the highest one. -/
theorem rdiv_step (d D x : Nat) (hd : 0 < d) : (x + 65536 * D) / d = (D % d * 65536 + x) / d + 65536 * (D / d) ∧ (x + 65536 * D) % d = (D % d * 65536 + x) % d := by
  have h1 := Nat.mod_add_div D d
  have e : x + 65536 * D = (D % d * 65536 + x) + d * (65536 * (D / d)) := by
    rw [Nat.mul_left_comm]
    generalize d * (D / d) = p at *
    omega
  constructor
  · conv => lhs; rw [e]
    rw [Nat.add_mul_div_left _ _ hd]
  · conv => lhs; rw [e]
    rw [Nat.add_mul_mod_self_left]
theorem div_small (d r x : Nat) (hd : 0 < d) (hr : r < d) (hx : x < 65536) : (r * 65536 + x) / d < 65536 := by
  rw [Nat.div_lt_iff_lt_mul hd]
  have : (r + 1) * 65536 ≤ d * 65536 := Nat.mul_le_mul_right _ hr
  omega
theorem wdig (r x : Nat) (hr : r < 10) (hx : x < 65536) : wrap64 (wrap64 ((r : Int) * 65536) + (x : Int)) = ((r * 65536 + x : Nat) : Int) := by
  rw [w64in ((r : Int) * 65536) (by omega) (by omega), w64in _ (by omega) (by omega)]
  omega
theorem RShow_l1 (s : ByteArray) : ∀ (n : Nat) (A R : List Int) (D : Nat), A.length = n → WB 65536 A → WB 65536 R → VB 65536 R = D / 10 → A.length + R.length < 1000000000 →
    ∃ z : List Int, z.length = A.length + R.length ∧ WB 65536 z ∧ VB 65536 z = (VB 65536 A + 65536 ^ n * D) / 10 ∧
      ∀ res, Ev (fun k => zelligeref03_Show.l1 k z s (((VB 65536 A + 65536 ^ n * D) % 10 : Nat) : Int) (((0 : Nat) : Int) - 1)) res → Ev (fun k => zelligeref03_Show.l1 k (A ++ R) s ((D % 10 : Nat) : Int) ((n : Int) - 1)) res := by
  intro n
  induction n with
  | zero =>
    intro A R D hA hWA hWR hR hl
    obtain rfl := List.length_eq_zero_iff.1 hA
    refine ⟨R, by simp, hWR, by simp [VB, hR], fun res h => ?_⟩
    simpa [VB] using h
  | succ n ih =>
    intro A R D hA hWA hWR hR hl
    rcases List.eq_nil_or_concat A with rfl | ⟨m, x, rfl⟩
    · simp at hA
    rw [List.concat_eq_append] at *
    have hm : m.length = n := by simpa using hA
    obtain ⟨hWm, hWx⟩ := WB_append.1 hWA
    have hx := (WB_cons.1 hWx).1
    obtain ⟨x, rfl⟩ := Int.eq_ofNat_of_zero_le hx.1
    obtain ⟨d1, d2⟩ := rdiv_step 10 D x (by omega)
    have hsm := div_small 10 (D % 10) x (by omega) (by omega) (by omega)
    have hlen : (m ++ [(x : Int)]).length = n + 1 := hA
    obtain ⟨z, z1, z2, z3, z4⟩ := ih m ((((D % 10 * 65536 + x) / 10 : Nat) : Int) :: R) (x + 65536 * D) hm hWm (WB_cons.2 ⟨by omega, hWR⟩) (by rw [VB, Int.toNat_natCast, hR, d1]) (by simp at hl ⊢; omega)
    have hv : VB 65536 (m ++ [(x : Int)]) + 65536 ^ (n + 1) * D = VB 65536 m + 65536 ^ n * (x + 65536 * D) := by
      rw [VB_snoc, hm, Int.toNat_natCast, Nat.pow_succ, Nat.mul_add, Nat.mul_assoc, Nat.add_assoc]
    refine ⟨z, by rw [z1]; simp; omega, z2, by rw [z3, hv], fun res h => ?_⟩
    rw [hv] at h
    have h5 := z4 res h
    refine Ev.step (fun k => ?_) h5
    show zelligeref03_Show.l1 (k + 1) _ _ _ _ = _
    have e1 : ((n + 1 : Nat) : Int) - 1 = (n : Int) := by omega
    have hr : rd (m ++ [(x : Int)] ++ R) (n : Int) = (x : Int) := by rw [List.append_assoc, ← hm]; exact rd_mid m _ R
    have hst : ∀ v : Int, (m ++ [(x : Int)] ++ R).set n v = m ++ v :: R := by
      intro v
      rw [List.append_assoc, ← hm]
      exact set_mid m _ v R
    have hL : (m ++ [(x : Int)] ++ R).length = n + 1 + R.length := by rw [List.length_append, hlen]
    have E1 := Aside0.mk (wpred n (by omega))
    have E3 := Aside0.mk (wdig (D % 10) x (by omega) (by omega))
    have e5 : Int.tdiv ((D % 10 * 65536 + x : Nat) : Int) 10 = (((D % 10 * 65536 + x) / 10 : Nat) : Int) := tdivN _ 10
    have e6 : Int.tmod ((D % 10 * 65536 + x : Nat) : Int) 10 = (((D % 10 * 65536 + x) % 10 : Nat) : Int) := tmodN _ 10
    have E7 := Aside0.mk (w64in (((D % 10 * 65536 + x) / 10 : Nat) : Int) (by omega) (by omega))
    simp only [zelligeref03_Show.l1]
    rw [e1, if_pos (by omega), if_pos (by omega), if_pos (by omega), hr, E3.out, e5, e6, E7.out, E1.out, Int.toNat_natCast, hst, d2]
theorem digit_str (d : Nat) (h : d < 10) : bytesOf ((⟨#[48, 49, 50, 51, 52, 53, 54, 55, 56, 57]⟩ : ByteArray).extract d (d + 1)) = [48 + (d : Int)] := by
  have : ∀ d : Fin 10, bytesOf ((⟨#[48, 49, 50, 51, 52, 53, 54, 55, 56, 57]⟩ : ByteArray).extract d.val (d.val + 1)) = [48 + (d.val : Int)] := by decide +kernel
  exact this ⟨d, h⟩
/-- One digit in front. -/
theorem RShow_round (m : Nat) (s : ByteArray) (hl : (NB 65536 m).length < 1000000000) (hs : (bytesOf s).length < 1000000000000) (res : ByteArray)
    (h : ∀ t : ByteArray, bytesOf t = (48 + ((m % 10 : Nat) : Int)) :: bytesOf s → Ev (fun k => zelligeref03_Show.l0 k (NB 65536 (m / 10)) t) res) : Ev (fun k => zelligeref03_Show.j1 k (NB 65536 m) s true) res := by
  obtain ⟨z, z1, z2, z3, z4⟩ := RShow_l1 s _ (NB 65536 m) [] 0 rfl (WB_NB _ _) (WB_nil _) rfl (by simpa using hl)
  rw [Nat.mul_zero, Nat.add_zero, VB_NB (by omega)] at z3 z4
  rw [List.length_nil, Nat.add_zero] at z1
  have t1 := RTrim_f z z2 (by omega)
  rw [z3] at t1
  have hd := digit_str (m % 10) (by omega)
  have hsz := bytesOf_length s
  have hh := h (((⟨#[48, 49, 50, 51, 52, 53, 54, 55, 56, 57]⟩ : ByteArray).extract (m % 10) (m % 10 + 1)) ++ s) (by rw [bytesOf_append, hd]; rfl)
  have hz2 := bytesOf_length ((⟨#[48, 49, 50, 51, 52, 53, 54, 55, 56, 57]⟩ : ByteArray).extract (m % 10) (m % 10 + 1))
  rw [hd, List.length_singleton] at hz2
  have E1 := Aside0.mk (wpred (NB 65536 m).length (by omega))
  have E2 := Aside0.mk (wsucc (m % 10) (by omega))
  have h5 := z4 res (by
    refine Ev.step (fun k => ?_) (Ev.bind (f := fun k t => zelligeref03_Show.l0 k t (((⟨#[48, 49, 50, 51, 52, 53, 54, 55, 56, 57]⟩ : ByteArray).extract (m % 10) (m % 10 + 1)) ++ s)) t1 hh)
    show zelligeref03_Show.l1 (k + 1) _ _ _ _ = _
    simp only [zelligeref03_Show.l1]
    rw [if_neg (by omega)]
    congr 1
    funext t
    rw [if_pos (by omega), E2.out, if_pos (by omega), if_pos (by omega), Int.toNat_natCast, Int.toNat_natCast, if_pos (by omega)])
  refine Ev.step (fun k => ?_) h5
  show zelligeref03_Show.j1 (k + 1) _ _ _ = _
  simp only [zelligeref03_Show.j1]
  rw [if_pos trivial, E1.out, List.append_nil]
  rfl
theorem toList_nil (s : ByteArray) (h : bytesOf s = []) : (s.toList == ([] : List UInt8)) = true := by
  rw [toList_data]
  unfold bytesOf at h
  simp at h
  simp [h]
theorem toList_ne (s : ByteArray) (h : bytesOf s ≠ []) : (s.toList == ([] : List UInt8)) = false := by
  rw [toList_data]
  unfold bytesOf at h
  cases e : s.data.toList with
  | nil => rw [e] at h; exact absurd rfl h
  | cons x xs => rfl
theorem RShow_l0 : ∀ (j m : Nat) (s : ByteArray), m < 10 ^ j → (NB 65536 m).length < 1000000000 → (bytesOf s).length + j < 1000000000000 → (m ≠ 0 ∨ bytesOf s ≠ []) →
    Ev (fun k => zelligeref03_Show.l0 k (NB 65536 m) s) (strOfNums ((Ch (NB 10 m)).reverse ++ bytesOf s)) := by
  have fin : ∀ s : ByteArray, bytesOf s ≠ [] → Ev (fun k => zelligeref03_Show.l0 k (NB 65536 0) s) (strOfNums ((Ch (NB 10 0)).reverse ++ bytesOf s)) := by
    intro s hs
    rw [NB_zero, NB_zero, show (Ch []).reverse ++ bytesOf s = bytesOf s from rfl, str_bytesOf]
    refine Ev.step (f := fun k => zelligeref03_Show.j1 k [] s false) (fun k => ?_) (Ev.step (f := fun _ => some s) (fun k => ?_) (Ev.now _))
    · show zelligeref03_Show.l0 (k + 1) _ _ = _
      simp only [zelligeref03_Show.l0]
      rw [if_neg (by simp), toList_ne s hs]
    · show zelligeref03_Show.j1 (k + 1) _ _ _ = _
      simp only [zelligeref03_Show.j1]
      rw [if_neg Bool.false_ne_true]
  intro j
  induction j with
  | zero =>
    intro m s hm hl hb h
    rw [Nat.pow_zero] at hm
    obtain rfl : m = 0 := by omega
    exact fin s (h.resolve_left (by omega))
  | succ j ih =>
    intro m s hm hl hb h
    rcases Nat.eq_zero_or_pos m with rfl | h0
    · exact fin s (h.resolve_left (by omega))
    · have hne : (NB 65536 m).length ≠ 0 := fun e => by
        have := (NB_len0 (b := 65536) (by omega) m).1 e
        omega
      have hq : m / 10 < 10 ^ j := by rw [Nat.div_lt_iff_lt_mul (by omega), ← Nat.pow_succ]; exact hm
      have hll : (NB 65536 (m / 10)).length ≤ (NB 65536 m).length := NB_length_mono (by omega) (Nat.div_le_self _ _)
      have HQ := Aside0.mk hq
      have HM := Aside0.mk hm
      clear hq hm
      refine Ev.step (fun k => ?_) (RShow_round m s hl (by omega) _ (fun t ht => ?_))
      · show zelligeref03_Show.l0 (k + 1) _ _ = _
        simp only [zelligeref03_Show.l0]
        rw [if_pos (by omega)]
      · have h1 := ih (m / 10) t HQ.out (by omega) (by rw [ht, List.length_cons]; omega) (.inr (by rw [ht]; simp))
        rw [ht] at h1
        rw [NB_pos (by omega) h0]
        have e : (Ch (((m % 10 : Nat) : Int) :: NB 10 (m / 10))).reverse ++ bytesOf s = (Ch (NB 10 (m / 10))).reverse ++ (48 + ((m % 10 : Nat) : Int)) :: bytesOf s := by simp [Ch]
        rw [e]
        exact h1
theorem pow_5 (n : Nat) : 65536 ^ n ≤ 10 ^ (5 * n) := by
  rw [Nat.pow_mul]
  exact Nat.pow_le_pow_left (by decide) n
theorem RShow_f (m : Nat) (hl : (NB 65536 m).length < 1000000000) : Ev (fun k => zelligeref03_Show.f k (NB 65536 m)) (showS m) := by
  unfold zelligeref03_Show.f
  refine Ev.congr (g := fun k => _) (f := fun k => zelligeref03_Show.l0 k (NB 65536 m) (⟨#[]⟩ : ByteArray)) (fun k => ?_) ?_
  · rw [Option.bind_some, if_pos (by simp; omega), List.nil_append]
  · unfold showS decS
    rcases Nat.eq_zero_or_pos m with rfl | h0
    · rw [if_pos rfl]
      have hr := RShow_round 0 (⟨#[]⟩ : ByteArray) (by rw [NB_zero]; simp) (by decide) (strOfNums [48]) (fun t ht => by
        have := RShow_l0 0 0 t (by simp) (by rw [NB_zero]; simp) (by rw [ht]; simp [bytesOf]) (.inr (by rw [ht]; simp))
        rw [ht] at this
        rw [NB_zero, NB_zero] at this
        rw [Nat.zero_div, NB_zero]
        exact this)
      refine Ev.step (fun k => ?_) hr
      show zelligeref03_Show.l0 (k + 1) _ _ = _
      simp only [zelligeref03_Show.l0]
      rw [NB_zero, if_neg (by simp), toList_nil _ rfl]
    · rw [if_neg (by omega)]
      have hv := Nat.lt_of_lt_of_le (NB_lt_length (b := 65536) (by omega) m) (pow_5 _)
      have h1 := RShow_l0 (5 * (NB 65536 m).length) m (⟨#[]⟩ : ByteArray) hv hl (by have : (bytesOf (⟨#[]⟩ : ByteArray)).length = 0 := rfl; clear hv; omega) (.inl (by omega))
      have e : bytesOf (⟨#[]⟩ : ByteArray) = [] := rfl
      rw [e, List.append_nil] at h1
      exact h1
end Go.Proofs.YtmfmojldebhboaaDoor.ZSP
