/- What the printed functions of the reference for nat come to, told of numbers: halves, the greatest common divisor, bits. -/
import Derived.Test.YtafhcchjjlbojaaNum
import Derived.Test.YtafhcchjjlbojaaRefA
import Derived.Test.YtafhcchjjlbojaaRefB
import Derived.Test.YtafhcchjjlbojaaRefC
import Derived.Test.YtafhcchjjlbojaaRefD
import Derived.Test.YtafhcchjjlbojaaRefE
import Derived.Test.YtafhcchjjlbojaaNbits
import Derived.Test.YtafhcchjjlbojaaZNatgRAdd
import Derived.Test.YtafhcchjjlbojaaZNatgRGcd
namespace Go.Proofs.Ytafhcchjjlbojaa.ZNatP
open Go.RowKit Go.Proofs.YtafhcchjjlbojaaW.PrintWords Go.Proofs.YtafhcchjjlbojaaW.PrintLast Go.Proofs.YtafhcchjjlbojaaW.PrintMore Go.Proofs.Ytafhcchjjlbojaa.Num Go.Proofs.Ytafhcchjjlbojaa.ZNat
set_option linter.unusedVariables false
set_option linter.unusedSimpArgs false

theorem RHalf_l0 (l : List Int) (hW : WB 65536 l) (hl : l.length < 1000000000) : ∀ (n : Nat) (P R : List Int), P.length = n → n + R.length = l.length → WB 65536 R → VB 65536 R = VB 65536 (l.drop n) / 2 →
    Ev (fun k => zelligeref03_Half.l0 k l (P ++ R) ((VB 65536 (l.drop n) % 2 : Nat) : Int) ((n : Int) - 1)) (NB 65536 (VB 65536 l / 2)) := by
  intro n
  induction n with
  | zero =>
    intro P R hP hn hWR hR
    obtain rfl := List.length_eq_zero_iff.1 hP
    rw [List.drop_zero] at hR
    have h1 := RTrim_f R hWR (by omega)
    rw [hR] at h1
    refine Ev.step (fun k => ?_) (Ev.bind (f := fun _ t => some t) h1 (Ev.now _))
    show zelligeref03_Half.l0 (k + 1) _ _ _ _ = _
    simp only [zelligeref03_Half.l0]
    rw [if_neg (by omega)]
    rfl
  | succ n ih =>
    intro P R hP hn hWR hR
    rcases List.eq_nil_or_concat P with rfl | ⟨m, y, rfl⟩
    · simp at hP
    rw [List.concat_eq_append] at *
    have hm : m.length = n := by simpa using hP
    have hx := WB_rd hW n (by omega)
    obtain ⟨x, hxe⟩ := Int.eq_ofNat_of_zero_le hx.1
    rw [hxe] at hx
    have hd := VB_drop_rd 65536 l n (by omega)
    rw [hxe, Int.toNat_natCast] at hd
    obtain ⟨d1, d2⟩ := rdiv_step 2 (VB 65536 (l.drop (n + 1))) x (by omega)
    have hsm := div_small 2 (VB 65536 (l.drop (n + 1)) % 2) x (by omega) (by omega) (by omega)
    have h5 := ih m ((((VB 65536 (l.drop (n + 1)) % 2 * 65536 + x) / 2 : Nat) : Int) :: R) hm (by rw [List.length_cons]; omega) (WB_cons.2 ⟨by omega, hWR⟩) (by rw [VB, Int.toNat_natCast, hR, hd, d1])
    rw [hd, d2] at h5
    generalize VB 65536 (l.drop (n + 1)) = D at *
    refine Ev.step (fun k => ?_) h5
    show zelligeref03_Half.l0 (k + 1) _ _ _ _ = _
    have e1 : ((n + 1 : Nat) : Int) - 1 = (n : Int) := by omega
    have hL : (m ++ [y] ++ R).length = n + 1 + R.length := by rw [List.length_append, hP]
    have hst : ∀ v : Int, (m ++ [y] ++ R).set n v = m ++ v :: R := by
      intro v
      rw [List.append_assoc, ← hm]
      exact set_mid m _ v R
    have E1 := Aside0.mk (wpred n (by omega))
    have E3 := Aside0.mk (wdig (D % 2) x (by omega) (by omega))
    have e5 : Int.tdiv ((D % 2 * 65536 + x : Nat) : Int) 2 = (((D % 2 * 65536 + x) / 2 : Nat) : Int) := tdivN _ 2
    have e6 : Int.tmod ((D % 2 * 65536 + x : Nat) : Int) 2 = (((D % 2 * 65536 + x) % 2 : Nat) : Int) := tmodN _ 2
    have E7 := Aside0.mk (w64in (((D % 2 * 65536 + x) / 2 : Nat) : Int) (by omega) (by omega))
    simp only [zelligeref03_Half.l0]
    rw [e1, if_pos (by omega), if_pos (by omega), if_pos (by omega), if_pos (by omega), hxe, E3.out, e5, e6, E7.out, E1.out, Int.toNat_natCast, hst]
theorem RHalf_f (m : Nat) (hl : (NB 65536 m).length < 1000000000) : Ev (fun k => zelligeref03_Half.f k (NB 65536 m)) (NB 65536 (m / 2)) := by
  have h := RHalf_l0 (NB 65536 m) (WB_NB _ _) hl (NB 65536 m).length (List.replicate (NB 65536 m).length 0) [] (by simp) (by simp) (WB_nil _) (by rw [List.drop_length]; rfl)
  rw [List.drop_length, VB_NB (by omega), List.append_nil] at h
  unfold zelligeref03_Half.f
  refine Ev.congr (fun k => ?_) h
  rw [if_pos (by omega), if_pos (by omega), wpred _ (by omega), Int.toNat_natCast]
  rfl
theorem rd_zero (m : Nat) (h : 0 < m) : rd (NB 65536 m) 0 = ((m % 65536 : Nat) : Int) := by
  rw [NB_pos (by omega) h]; rfl
theorem rd_par (m : Nat) (h : 0 < m) : Int.tmod (rd (NB 65536 m) 0) 2 = ((m % 2 : Nat) : Int) := by
  rw [rd_zero m h, show (2 : Int) = ((2 : Nat) : Int) from rfl, tmodN]
  omega
theorem NB_lpos (m : Nat) (h : 0 < m) : 0 < (NB 65536 m).length := by
  rcases Nat.eq_zero_or_pos (NB 65536 m).length with e | e
  · have := (NB_len0 (b := 65536) (by omega) m).1 e
    omega
  · exact e
/-- Half of one number, beside one that has no even divisor with it. -/
theorem gcd_half (x y : Nat) (h : x % 2 = 0) (hg : Nat.gcd x y % 2 = 1) : Nat.gcd (x / 2) y = Nat.gcd x y := by
  have hx : x = 2 * (x / 2) := by omega
  refine Nat.dvd_antisymm ?_ ?_
  · refine Nat.dvd_gcd ?_ (Nat.gcd_dvd_right _ _)
    rw [hx]
    exact Nat.dvd_trans (Nat.gcd_dvd_left _ _) (by rw [← hx]; exact ⟨2, by omega⟩)
  · refine Nat.dvd_gcd ?_ (Nat.gcd_dvd_right _ _)
    have hc : Nat.Coprime (Nat.gcd x y) 2 := by
      unfold Nat.Coprime
      rw [Nat.gcd_comm, Nat.gcd_rec, hg]
      rfl
    refine hc.dvd_of_dvd_mul_left ?_
    rw [← hx]
    exact Nat.gcd_dvd_left _ _
theorem gcd_two (x y : Nat) (h : x % 2 = 0) (h2 : y % 2 = 0) : Nat.gcd x y = 2 * Nat.gcd (x / 2) (y / 2) := by
  rw [← Nat.gcd_mul_left, show 2 * (x / 2) = x from by omega, show 2 * (y / 2) = y from by omega]
theorem gcd_odd (x y : Nat) (h : ¬ (x % 2 = 0 ∧ y % 2 = 0)) : Nat.gcd x y % 2 = 1 := by
  rcases Nat.mod_two_eq_zero_or_one (Nat.gcd x y) with e | e
  · exfalso
    have h2 := Nat.dvd_of_mod_eq_zero e
    exact h ⟨Nat.mod_eq_zero_of_dvd (Nat.dvd_trans h2 (Nat.gcd_dvd_left _ _)), Nat.mod_eq_zero_of_dvd (Nat.dvd_trans h2 (Nat.gcd_dvd_right _ _))⟩
  · exact e
theorem gcd_sub' (x y : Nat) (h : y ≤ x) : Nat.gcd (x - y) y = Nat.gcd x y := Nat.gcd_sub_self_left h
section
variable (B : Nat) (hB : (NB 65536 B).length < 500000000)
include hB
theorem RGcd_l4 (y two : Nat) (hy : 0 < y) (ht : two < 4611686018427387904) : ∀ (d i o : Nat), two - i = d → i ≤ two → 0 < o → y * (o * 2 ^ d) ≤ B →
    Ev (fun k => zelligeref03_Gcd.l4 k (NB 65536 o) (NB 65536 y) (two : Int) (i : Int)) (NB 65536 (y * (o * 2 ^ d))) := by
  have hle : ∀ z, z ≤ B → (NB 65536 z).length < 500000000 := fun z h => by
    have := len_le _ _ h
    omega
  intro d
  induction d with
  | zero =>
    intro i o hd hi ho hb
    rw [Nat.pow_zero, Nat.mul_one] at hb ⊢
    have l1 := hle y (Nat.le_trans (Nat.le_mul_of_pos_right _ ho) hb)
    have l2 := hle o (Nat.le_trans (Nat.le_mul_of_pos_left _ hy) hb)
    have h1 := RMul_f (NB 65536 y) (NB 65536 o) (WB_NB _ _) (WB_NB _ _) (by omega)
    rw [VB_NB (by omega), VB_NB (by omega)] at h1
    refine Ev.step (fun k => ?_) (Ev.bind (f := fun _ t => some t) h1 (Ev.now _))
    show zelligeref03_Gcd.l4 (k + 1) _ _ _ _ = _
    simp only [zelligeref03_Gcd.l4]
    rw [if_neg (by omega)]
  | succ d ih =>
    intro i o hd hi ho hb
    have e : y * (o * 2 ^ (d + 1)) = y * ((o + o) * 2 ^ d) := by
      rw [Nat.pow_succ, ← Nat.two_mul]
      congr 1
      rw [Nat.mul_comm (2 ^ d) 2, ← Nat.mul_assoc, Nat.mul_comm o 2]
    rw [e] at hb ⊢
    have l2 := hle (o + o) (Nat.le_trans (Nat.le_mul_of_pos_left _ hy) (Nat.le_trans (Nat.mul_le_mul_left _ (Nat.le_mul_of_pos_right _ (Nat.two_pow_pos d))) hb))
    have l3 := len_le o (o + o) (by omega)
    have h1 := RAdd_f (NB 65536 o) (NB 65536 o) (WB_NB _ _) (WB_NB _ _) (by omega) (by omega)
    rw [VB_NB (by omega)] at h1
    have h2 := ih (i + 1) (o + o) (by omega) (by omega) (by omega) hb
    refine Ev.step (fun k => ?_) (Ev.bind (f := fun k t => zelligeref03_Gcd.l4 k t (NB 65536 y) (two : Int) ((i + 1 : Nat) : Int)) h1 h2)
    show zelligeref03_Gcd.l4 (k + 1) _ _ _ _ = _
    simp only [zelligeref03_Gcd.l4]
    rw [if_pos (by omega), wsucc i (by omega)]
theorem RGcd_l2 (one y : List Int) (two : Int) (Y : Nat) : ∀ (s x : Nat), x ≤ s → 0 < x → x ≤ B → Nat.gcd x Y % 2 = 1 → ∃ x', x' ≤ x ∧ x' % 2 = 1 ∧ Nat.gcd x' Y = Nat.gcd x Y ∧
    ∀ res, Ev (fun k => zelligeref03_Gcd.l3 k one (NB 65536 x') y two) res → Ev (fun k => zelligeref03_Gcd.l2 k one (NB 65536 x) y two) res := by
  intro s
  induction s with
  | zero => intro x h h0; omega
  | succ s ih =>
    intro x h h0 hb hg
    have hp := NB_lpos x h0
    have hr := rd_par x h0
    by_cases he : x % 2 = 0
    · obtain ⟨x', a, b, c, e⟩ := ih (x / 2) (by omega) (by omega) (by omega) (by rw [gcd_half x Y he hg]; exact hg)
      refine ⟨x', by omega, b, by rw [c, gcd_half x Y he hg], fun res hres => ?_⟩
      have lx := len_le _ _ hb
      refine Ev.step (fun k => ?_) (Ev.bind (f := fun k t => zelligeref03_Gcd.l2 k one t y two) (RHalf_f x (by omega)) (e res hres))
      show zelligeref03_Gcd.l2 (k + 1) _ _ _ _ = _
      simp only [zelligeref03_Gcd.l2]
      rw [if_pos (by omega), hr, if_pos (by omega)]
    · refine ⟨x, Nat.le_refl _, by omega, rfl, fun res hres => Ev.step (fun k => ?_) hres⟩
      show zelligeref03_Gcd.l2 (k + 1) _ _ _ _ = _
      simp only [zelligeref03_Gcd.l2]
      rw [if_pos (by omega), hr, if_neg (by omega)]
theorem RGcd_l3 (one x : List Int) (two : Int) (X : Nat) : ∀ (s y : Nat), y ≤ s → 0 < y → y ≤ B → Nat.gcd y X % 2 = 1 → ∃ y', 0 < y' ∧ y' ≤ y ∧ y' % 2 = 1 ∧ Nat.gcd y' X = Nat.gcd y X ∧
    ∀ res, Ev (fun k => zelligeref03_Gcd.l3 k one x (NB 65536 y') two) res → Ev (fun k => zelligeref03_Gcd.l3 k one x (NB 65536 y) two) res := by
  intro s
  induction s with
  | zero => intro y h h0; omega
  | succ s ih =>
    intro y h h0 hb hg
    have hp := NB_lpos y h0
    have hr := rd_par y h0
    by_cases he : y % 2 = 0
    · obtain ⟨y', z, a, b, c, e⟩ := ih (y / 2) (by omega) (by omega) (by omega) (by rw [gcd_half y X he hg]; exact hg)
      refine ⟨y', z, by omega, b, by rw [c, gcd_half y X he hg], fun res hres => ?_⟩
      have ly := len_le _ _ hb
      refine Ev.step (fun k => ?_) (Ev.bind (f := fun k t => zelligeref03_Gcd.l3 k one x t two) (RHalf_f y (by omega)) (e res hres))
      show zelligeref03_Gcd.l3 (k + 1) _ _ _ _ = _
      simp only [zelligeref03_Gcd.l3]
      rw [if_pos (by omega), hr, if_pos (by omega)]
    · exact ⟨y, h0, Nat.le_refl _, by omega, rfl, fun res hres => hres⟩
theorem RGcd_l1 (G two : Nat) (hG : G % 2 = 1) (ht : two < 4611686018427387904) (hb2 : G * 2 ^ two ≤ B) : ∀ (s x y : Nat), x + y ≤ s → 0 < y → Nat.gcd x y = G → x ≤ B → y ≤ B →
    Ev (fun k => zelligeref03_Gcd.l1 k (NB 65536 1) (NB 65536 x) (NB 65536 y) (two : Int)) (NB 65536 (G * 2 ^ two)) := by
  intro s
  induction s with
  | zero => intro x y h h0; omega
  | succ s ih =>
    intro x y h h0 hg hx hy
    rcases Nat.eq_zero_or_pos x with rfl | hx0
    · rw [Nat.gcd_zero_left] at hg
      subst hg
      have h1 := RGcd_l4 B hB y two h0 ht two 0 1 rfl (by omega) (by omega) (by rw [Nat.one_mul]; exact hb2)
      rw [Nat.one_mul] at h1
      refine Ev.step (fun k => ?_) h1
      show zelligeref03_Gcd.l1 (k + 1) _ _ _ _ = _
      simp only [zelligeref03_Gcd.l1]
      rw [NB_zero, if_neg (by simp)]
      rfl
    · have hp := NB_lpos x hx0
      obtain ⟨x', a1, a2, a3, a4⟩ := RGcd_l2 B hB (NB 65536 1) (NB 65536 y) (two : Int) y x x (Nat.le_refl _) hx0 hx (by rw [hg]; exact hG)
      obtain ⟨y', b0, b1, b2, b3, b4⟩ := RGcd_l3 B hB (NB 65536 1) (NB 65536 x') (two : Int) x' y y (Nat.le_refl _) h0 hy (by rw [Nat.gcd_comm, a3, hg]; exact hG)
      have hg' : Nat.gcd x' y' = G := by rw [Nat.gcd_comm, b3, Nat.gcd_comm, a3, hg]
      refine Ev.step (fun k => ?_) (a4 _ (b4 _ ?_))
      · show zelligeref03_Gcd.l1 (k + 1) _ _ _ _ = _
        simp only [zelligeref03_Gcd.l1]
        rw [if_pos (by omega)]
      · have hpy := NB_lpos y' b0
        have hry := rd_par y' b0
        have lx := len_le x' B (by omega)
        have ly := len_le y' B (by omega)
        have hc := RCmp_f x' y' (by omega)
        rcases Nat.lt_or_ge x' y' with hlt | hge
        · have hce : cmpN x' y' = -1 := by unfold cmpN; rw [if_pos hlt]
          rw [hce] at hc
          have hs := RSub_f y' x' (by omega) (by omega)
          have hn := ih (y' - x') x' (by omega) (by omega) (by rw [gcd_sub' y' x' (by omega), Nat.gcd_comm]; exact hg') (by omega) (by omega)
          refine Ev.step (fun k => ?_) (Ev.bind (f := fun k t => if t < 0 then (zelligeref03_Sub.f k (NB 65536 y') (NB 65536 x')).bind fun t => zelligeref03_Gcd.l1 k (NB 65536 1) t (NB 65536 x') (two : Int) else (zelligeref03_Sub.f k (NB 65536 x') (NB 65536 y')).bind fun t => zelligeref03_Gcd.l1 k (NB 65536 1) t (NB 65536 y') (two : Int)) hc (Ev.congr (fun k => if_pos (by omega)) (Ev.bind hs hn)))
          show zelligeref03_Gcd.l3 (k + 1) _ _ _ _ = _
          simp only [zelligeref03_Gcd.l3]
          rw [if_pos (by omega), hry, if_neg (by omega)]
        · have hce : ¬ cmpN x' y' < 0 := by unfold cmpN; rw [if_neg (by omega)]; split <;> omega
          generalize cmpN x' y' = c at *
          have hs := RSub_f x' y' hge (by omega)
          have hn := ih (x' - y') y' (by omega) (by omega) (by rw [gcd_sub' x' y' hge]; exact hg') (by omega) (by omega)
          refine Ev.step (fun k => ?_) (Ev.bind (f := fun k t => if t < 0 then (zelligeref03_Sub.f k (NB 65536 y') (NB 65536 x')).bind fun t => zelligeref03_Gcd.l1 k (NB 65536 1) t (NB 65536 x') (two : Int) else (zelligeref03_Sub.f k (NB 65536 x') (NB 65536 y')).bind fun t => zelligeref03_Gcd.l1 k (NB 65536 1) t (NB 65536 y') (two : Int)) hc (Ev.congr (fun k => if_neg hce) (Ev.bind hs hn)))
          show zelligeref03_Gcd.l3 (k + 1) _ _ _ _ = _
          simp only [zelligeref03_Gcd.l3]
          rw [if_pos (by omega), hry, if_neg (by omega)]
theorem RGcd_l0 : ∀ (s two x y : Nat), x < 2 ^ s → 0 < x → 0 < y → x ≤ B → y ≤ B → Nat.gcd x y * 2 ^ two ≤ B → two + s < 4611686018427387904 →
    Ev (fun k => zelligeref03_Gcd.l0 k (NB 65536 1) (NB 65536 x) (NB 65536 y) (two : Int)) (NB 65536 (Nat.gcd x y * 2 ^ two)) := by
  intro s
  induction s with
  | zero => intro two x y h h0; rw [Nat.pow_zero] at h; omega
  | succ s ih =>
    intro two x y h h0 hy0 hx hy hb ht
    have hpx := NB_lpos x h0
    have hpy := NB_lpos y hy0
    have hrx := rd_par x h0
    have hry := rd_par y hy0
    have odd : ¬ (x % 2 = 0 ∧ y % 2 = 0) → Ev (fun k => zelligeref03_Gcd.j1 k (NB 65536 1) (NB 65536 x) (NB 65536 y) (two : Int) false) (NB 65536 (Nat.gcd x y * 2 ^ two)) := by
      intro ho
      refine Ev.step (fun k => ?_) (RGcd_l1 B hB (Nat.gcd x y) two (gcd_odd x y ho) (by omega) hb _ x y (Nat.le_refl _) hy0 rfl hx hy)
      show zelligeref03_Gcd.j1 (k + 1) _ _ _ _ _ = _
      simp only [zelligeref03_Gcd.j1]
      rw [if_neg Bool.false_ne_true]
    by_cases hex : x % 2 = 0
    · by_cases hey : y % 2 = 0
      · have e : Nat.gcd x y * 2 ^ two = Nat.gcd (x / 2) (y / 2) * 2 ^ (two + 1) := by
          rw [gcd_two x y hex hey, Nat.pow_succ, Nat.mul_comm 2, Nat.mul_assoc, Nat.mul_comm 2]
        rw [e] at hb ⊢
        have hx2 : x / 2 < 2 ^ s := by rw [Nat.pow_succ] at h; omega
        have h1 := ih (two + 1) (x / 2) (y / 2) hx2 (by omega) (by omega) (by omega) (by omega) hb (by omega)
        have lx := len_le _ _ hx
        have ly := len_le _ _ hy
        have hw := wsucc two (by omega)
        refine Ev.step (f := fun k => zelligeref03_Gcd.j1 k (NB 65536 1) (NB 65536 x) (NB 65536 y) (two : Int) true) (fun k => ?_) (Ev.step (fun k => ?_) (Ev.bind (f := fun k t => (zelligeref03_Half.f k (NB 65536 y)).bind fun u => zelligeref03_Gcd.l0 k (NB 65536 1) t u ((two + 1 : Nat) : Int)) (RHalf_f x (by omega)) (Ev.bind (RHalf_f y (by omega)) h1)))
        · show zelligeref03_Gcd.l0 (k + 1) _ _ _ _ = _
          simp only [zelligeref03_Gcd.l0]
          rw [if_pos (by omega), hrx, if_pos (by omega), if_pos (by omega), hry, hey]
          rfl
        · show zelligeref03_Gcd.j1 (k + 1) _ _ _ _ _ = _
          simp only [zelligeref03_Gcd.j1]
          rw [if_pos trivial, hw]
      · refine Ev.step (fun k => ?_) (odd (fun h => hey h.2))
        show zelligeref03_Gcd.l0 (k + 1) _ _ _ _ = _
        simp only [zelligeref03_Gcd.l0]
        rw [if_pos (by omega), hrx, if_pos (by omega), if_pos (by omega), hry, show y % 2 = 1 from by omega]
        rfl
    · refine Ev.step (fun k => ?_) (odd (fun h => hex h.1))
      show zelligeref03_Gcd.l0 (k + 1) _ _ _ _ = _
      simp only [zelligeref03_Gcd.l0]
      rw [if_pos (by omega), hrx, if_neg (by omega)]
end
theorem RGcd_f (m n : Nat) (hm : (NB 65536 m).length < 500000000) (hn : (NB 65536 n).length < 500000000) : Ev (fun k => zelligeref03_Gcd.f k (NB 65536 m) (NB 65536 n)) (NB 65536 (Nat.gcd m n)) := by
  unfold zelligeref03_Gcd.f
  rcases Nat.eq_zero_or_pos m with rfl | h0
  · rw [Nat.gcd_zero_left]
    refine Ev.congr (fun k => ?_) (Ev.now _)
    rw [NB_zero, if_pos (by simp)]
  · rcases Nat.eq_zero_or_pos n with rfl | hn0
    · rw [Nat.gcd_zero_right]
      have := NB_lpos m h0
      refine Ev.congr (fun k => ?_) (Ev.now _)
      rw [if_neg (by omega), NB_zero, if_pos (by simp)]
    · have p1 := NB_lpos m h0
      have p2 := NB_lpos n hn0
      have hone : NB 65536 1 = [1] := by rw [NB_pos (by omega) (by omega), NB_zero]; rfl
      have hB : (NB 65536 (max m n)).length < 500000000 := by
        rcases Nat.le_total m n with h | h
        · rw [Nat.max_eq_right h]; exact hn
        · rw [Nat.max_eq_left h]; exact hm
      have hs : m < 2 ^ (16 * (NB 65536 m).length) := by
        rw [Nat.pow_mul]
        exact NB_lt_length (by omega) m
      have h1 := RGcd_l0 (max m n) hB (16 * (NB 65536 m).length) 0 m n hs h0 hn0 (Nat.le_max_left _ _) (Nat.le_max_right _ _) (by rw [Nat.pow_zero, Nat.mul_one]; exact Nat.le_trans (Nat.gcd_le_left _ h0) (Nat.le_max_left _ _)) (by omega)
      rw [Nat.pow_zero, Nat.mul_one, hone] at h1
      refine Ev.congr (fun k => ?_) h1
      rw [if_neg (by omega), if_neg (by omega)]
      rfl
theorem RBits_l0 : ∀ (s m c : Nat), m < 2 ^ s → (NB 65536 m).length < 1000000000 → c + s < 4611686018427387904 → Ev (fun k => zelligeref03_Bits.l0 k (NB 65536 m) (c : Int)) ((c + nbits m : Nat) : Int) := by
  have fin : ∀ c : Nat, Ev (fun k => zelligeref03_Bits.l0 k (NB 65536 0) (c : Int)) ((c + nbits 0 : Nat) : Int) := by
    intro c
    refine Ev.step (f := fun _ => some ((c : Nat) : Int)) (fun k => ?_) (Ev.now _)
    show zelligeref03_Bits.l0 (k + 1) _ _ = _
    simp only [zelligeref03_Bits.l0]
    rw [NB_zero, if_neg (by simp)]
  intro s
  induction s with
  | zero =>
    intro m c h hl hb
    rw [Nat.pow_zero] at h
    obtain rfl : m = 0 := by omega
    exact fin c
  | succ s ih =>
    intro m c h hl hb
    rcases Nat.eq_zero_or_pos m with rfl | h0
    · exact fin c
    · have hp := NB_lpos m h0
      have ll := len_le (m / 2) m (Nat.div_le_self _ _)
      have h2 : m / 2 < 2 ^ s := by rw [Nat.pow_succ] at h; omega
      have h1 := ih (m / 2) (c + 1) h2 (by omega) (by omega)
      rw [nbits_half m h0, show c + (nbits (m / 2) + 1) = c + 1 + nbits (m / 2) from by omega]
      refine Ev.step (fun k => ?_) (Ev.bind (f := fun k t => zelligeref03_Bits.l0 k t ((c + 1 : Nat) : Int)) (RHalf_f m hl) h1)
      show zelligeref03_Bits.l0 (k + 1) _ _ = _
      simp only [zelligeref03_Bits.l0]
      rw [if_pos (by omega), wsucc c (by omega)]
theorem RBits_f (m : Nat) (hl : (NB 65536 m).length < 1000000000) : Ev (fun k => zelligeref03_Bits.f k (NB 65536 m)) ((nbits m : Nat) : Int) := by
  have hs : m < 2 ^ (16 * (NB 65536 m).length) := by
    rw [Nat.pow_mul]
    exact NB_lt_length (by omega) m
  have h1 := RBits_l0 (16 * (NB 65536 m).length) m 0 hs hl (by omega)
  rw [Nat.zero_add] at h1
  exact h1
end Go.Proofs.Ytafhcchjjlbojaa.ZNatP
