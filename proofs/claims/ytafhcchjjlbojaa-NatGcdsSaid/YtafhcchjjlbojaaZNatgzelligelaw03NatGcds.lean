-- printed by zprint.py, a program of this session's
import Derived.Test.YtafhcchjjlbojaaZNat0
import Derived.Test.YtafhcchjjlbojaaZNatgGcd
import Derived.Test.YtafhcchjjlbojaaZNatgLaw3
import Derived.Test.YtafhcchjjlbojaaZNatgRGcd
import Derived.Test.YtafhcchjjlbojaaZNatgRTrim
namespace Go.Proofs.Ytafhcchjjlbojaa.ZNat
open Go.RowKit Go.Proofs.YtafhcchjjlbojaaW.PrintWords Go.Proofs.YtafhcchjjlbojaaW.PrintLast Go.Proofs.YtafhcchjjlbojaaW.PrintMore
set_option linter.unusedVariables false
set_option linter.unusedSimpArgs false

/-! ### zelligelaw03_NatGcds: function 10 -/
mutual
def zelligelaw03_NatGcds.j0 : Nat → List Int → List Int → Bool → Option (Bool)
  | 0, _, _, _ => none
  | k + 1, x0, x1, x16 => if x16 = true then (if 0 ≤ ((x0.length : Int) % 8) then (if ((x0.length : Int) % 8) ≤ (x0.length : Int) then (if 0 ≤ ((x1.length : Int) % 8) then (if ((x1.length : Int) % 8) ≤ (x1.length : Int) then (zelligelaw03_NatGcds.j1 k (x0.take (((x0.length : Int) % 8) : Int).toNat) (x1.take (((x1.length : Int) % 8) : Int).toNat)) else (none)) else (none)) else (none)) else (none)) else (zelligelaw03_NatGcds.j1 k x0 x1)
def zelligelaw03_NatGcds.j1 : Nat → List Int → List Int → Option (Bool)
  | 0, _, _ => none
  | k + 1, x0, x1 => (nat_Gcd.f k x0 x1).bind fun t679 => ((zelligeref03_Of.f k x0).bind fun t682 => ((zelligeref03_Of.f k x1).bind fun t685 => ((zelligeref03_Gcd.f k t682 t685).bind fun t688 => ((zelligeref03_Same.f k t679 t688).bind fun t691 => (if t691 = true then ((zelligelaw03_lives.f k).bind fun t692 => (some t692)) else (some false))))))
end
def zelligelaw03_NatGcds.f (k : Nat) (l0 : List Int) (l1 : List Int) : Option (Bool) := (zelligelaw03_short.f l0).bind fun t667 => ((zelligelaw03_short.f l1).bind fun t670 => (if (t667.length : Int) > 8 then (zelligelaw03_NatGcds.j0 k t667 t670 true) else (zelligelaw03_NatGcds.j0 k t667 t670 (decide ((t670.length : Int) > 8)))))
theorem zelligelaw03_NatGcds.mono_l : ∀ k, (∀ y0 y1 y2, LeO (zelligelaw03_NatGcds.j0 k y0 y1 y2) (zelligelaw03_NatGcds.j0 (k + 1) y0 y1 y2)) ∧ (∀ y0 y1, LeO (zelligelaw03_NatGcds.j1 k y0 y1) (zelligelaw03_NatGcds.j1 (k + 1) y0 y1))
  | 0 => ⟨fun _ _ _ r h => by simp [zelligelaw03_NatGcds.j0] at h, fun _ _ r h => by simp [zelligelaw03_NatGcds.j1] at h⟩
  | k + 1 => by
    obtain ⟨ih0, ih1⟩ := zelligelaw03_NatGcds.mono_l k
    refine ⟨?_, ?_⟩
    · intro y0 y1 y2
      unfold zelligelaw03_NatGcds.j0
      repeat' first
      | (with_reducible exact ih1 _ _)
      | (with_reducible exact LeO.refl _)
      | (with_reducible refine LeO.ite ?_ ?_)
    · intro y0 y1
      unfold zelligelaw03_NatGcds.j1
      repeat' first
      | (with_reducible exact nat_Gcd.mono _ _ _)
      | (with_reducible exact zelligelaw03_lives.mono _)
      | (with_reducible exact zelligeref03_Gcd.mono _ _ _)
      | (with_reducible exact zelligeref03_Of.mono _ _)
      | (with_reducible exact zelligeref03_Same.mono _ _ _)
      | (with_reducible exact LeO.refl _)
      | (with_reducible refine LeO.ite ?_ ?_)
      | (with_reducible refine LeO.bind ?_ (fun _ => ?_))
theorem zelligelaw03_NatGcds.mono : ∀ a0 a1 k, LeO (zelligelaw03_NatGcds.f k a0 a1) (zelligelaw03_NatGcds.f (k + 1) a0 a1) := by
  intro a0 a1 k
  obtain ⟨ih0, ih1⟩ := zelligelaw03_NatGcds.mono_l k
  unfold zelligelaw03_NatGcds.f
  repeat' first
      | (with_reducible exact ih0 _ _ _)
      | (with_reducible exact LeO.refl _)
      | (with_reducible refine LeO.ite ?_ ?_)
      | (with_reducible refine LeO.bind ?_ (fun _ => ?_))
set_option maxHeartbeats 8000000 in
set_option maxRecDepth 100000 in
theorem zelligelaw03_NatGcds.calls (k : Nat) (A0 : Option Addr) (c0 : Nat) (l0 : List Int) (A1 : Option Addr) (c1 : Nat) (l1 : List Int) (r : Bool) (w : World) (hr0 : Kd.C (Kd.int .u32) w A0 l0.length l0) (hc0 : l0.length ≤ c0) (hr1 : Kd.C (Kd.int .u32) w A1 l1.length l1) (hc1 : l1.length ≤ c1) (h : zelligelaw03_NatGcds.f k l0 l1 = some r) (hT : Aside0 (r = true)) :
    Calls Try.prog 10 #[.slice A0 l0.length c0, .slice A1 l1.length c1] w fun e w' => e = .returned (.bool r) ∧ Below w.heap.size w w' := by
  have HR0 := Aside0.mk hr0
  have HC0 := Aside0.mk hc0
  clear hr0 hc0
  have HR1 := Aside0.mk hr1
  have HC1 := Aside0.mk hc1
  clear hr1 hc1
  have HB := Aside0.mk (Below.refl w.heap.size w)
  have H : ((zelligelaw03_short.f l0).bind fun t667 => ((zelligelaw03_short.f l1).bind fun t670 => (if (t667.length : Int) > 8 then (zelligelaw03_NatGcds.j0 k t667 t670 true) else (zelligelaw03_NatGcds.j0 k t667 t670 (decide ((t670.length : Int) > 8)))))) = some r := h
  clear h
  obtain ⟨t667, A3, H⟩ := bindE H
  obtain ⟨t670, A4, H⟩ := bindE H
  have HC5 := Aside0.mk H
  clear H
  go_enter Try.func10, Try.ntmps10
  go_upto_region 2 with (first | (go_at_call 24; (with_reducible refine (zelligelaw03_short.calls _ _ l0 t667 _ ?side1 ?side2 A3.out).mono ?_); (case side1 => exact HR0.out); (case side2 => exact HC0.out); rintro e w6 ⟨v668, rfl, ho0, hb⟩; have n0_ := Aside0.mk (Kd.R_lower ho0 (below_size (by with_reducible exact HB.out))); have n1_ := Aside0.mk (below_step (by with_reducible exact HB.out) hb); clear HB; have HO669 := n0_; have HB := n1_; clear n0_ n1_; (try clear hb); (try clear ho0)) | (go_at_call 24; (with_reducible refine (zelligelaw03_short.calls _ _ l1 t670 _ ?side1 ?side2 A4.out).mono ?_); (case side1 => repeat (exact (Kd.C_below HR1.out HB.out))); (case side2 => exact HC1.out); rintro e w7 ⟨v671, rfl, ho0, hb⟩; have n0_ := Aside0.mk (Kd.R_elder' (by exact HO669.out) (Kd.R_base ho0) hb); have n1_ := Aside0.mk (Kd.R_lower (Kd.R_new' ho0 (Kd.R_lt (by exact HO669.out))) (below_size (by with_reducible exact HB.out))); have n2_ := Aside0.mk (below_step (by with_reducible exact HB.out) hb); clear HO669; clear HB; have HO669 := n0_; have HO672 := n1_; have HB := n2_; clear n0_ n1_ n2_; (try clear hb); (try clear ho0)))
  repeat (go_quiet (fail); go_upto_region 2 with (fail))
  go_cut [16] (fun v16 wc => ∃ (kq : Nat) (x16_4 : Bool), v16 = .bool x16_4 ∧ Aside0 (zelligelaw03_NatGcds.j0 kq t667 t670 x16_4 = some r) ∧ Aside0 (kq ≤ k) ∧ Aside0 (Kd.R (Kd.int .u32) 53 wc w.heap.size (fun k_ => some k_ ≠ (v671 : Value).ownBlock) v668 t667) ∧ Aside0 (Kd.R (Kd.int .u32) 53 wc w.heap.size (fun k_ => some k_ ≠ (v668 : Value).ownBlock) v671 t670) ∧ Aside0 (Below w.heap.size w wc))
  case first =>
    have H := HC5.out
    clear HC5
    by_cases c8 : (t667.length : Int) > 8
    · rw [if_pos c8] at H
      have c8b0 : decide (8 < (t667.length : Int)) = true := decide_eq_true c8
      have c8b1 : decide (8 < t667.length) = true := decide_eq_true (by omega)
      clear c8
      (skip)
      have H' := Aside0.mk H
      clear H
      obtain ⟨Ao9, co9, eo9⟩ := Kd.R_slice HO669.out
      subst eo9
      go_wp2
      repeat (go_quiet (fail); try go_wp2)
      go_meet
      case rel => exact ⟨_, (true), (by rfl), H', ⟨by omega⟩, ⟨by exact Kd.R_mono HO669.out (fun _ hk => hk.2)⟩, ⟨by exact Kd.R_mono HO672.out (fun _ hk => hk.2)⟩, ⟨by with_reducible exact HB.out⟩⟩
    · rw [if_neg c8] at H
      have c8b0 : decide (8 < (t667.length : Int)) = false := decide_eq_false c8
      have c8b1 : decide (8 < t667.length) = false := decide_eq_false (by omega)
      clear c8
      (skip)
      have H' := Aside0.mk H
      clear H
      obtain ⟨Ao10, co10, eo10⟩ := Kd.R_slice HO669.out
      subst eo10
      obtain ⟨Ao11, co11, eo11⟩ := Kd.R_slice HO672.out
      subst eo11
      go_wp2
      repeat (go_quiet (fail); try go_wp2)
      go_meet
      case rel => exact ⟨_, (decide ((t670.length : Int) > 8)), (by rfl), H', ⟨by omega⟩, ⟨by exact Kd.R_mono HO669.out (fun _ hk => hk.2)⟩, ⟨by exact Kd.R_mono HO672.out (fun _ hk => hk.2)⟩, ⟨by with_reducible exact HB.out⟩⟩
  case rest =>
    clear HC5
    obtain ⟨kq, x16_4, rfl, HA, HJ4, HO_0, HO_1, HB⟩ := hcut
    cases kq with
    | zero => exact absurd HA.out (by simp [zelligelaw03_NatGcds.j0])
    | succ kj4 =>
      have H := HA.out
      clear HA
      simp only [zelligelaw03_NatGcds.j0] at H
      have HC12 := Aside0.mk H
      clear H
      go_upto_if 16 with (fail)
      repeat (go_quiet (fail); go_upto_if 16 with (fail))
      go_cut [0, 1] (fun v0 v1 wc => ∃ (kq : Nat) (x0_11 : List Int) (x1_11 : List Int), Aside0 (zelligelaw03_NatGcds.j1 kq x0_11 x1_11 = some r) ∧ Aside0 (kq ≤ kj4) ∧ Aside0 (Kd.R (Kd.int .u32) 53 wc w.heap.size (fun k_ => some k_ ≠ (v1 : Value).ownBlock) v0 x0_11) ∧ Aside0 (Kd.R (Kd.int .u32) 53 wc w.heap.size (fun k_ => some k_ ≠ (v0 : Value).ownBlock) v1 x1_11) ∧ Aside0 (Below w.heap.size w wc))
      case first =>
        have H := HC12.out
        clear HC12
        by_cases c13 : x16_4 = true
        · subst c13
          rw [if_pos rfl] at H
          obtain ⟨ji14, hji14⟩ : ∃ j_ : Int, ((t667.length : Int) % 8) = j_ := ⟨_, rfl⟩
          replace H : (if 0 ≤ (ji14) then (if (ji14) ≤ (t667.length : Int) then (if 0 ≤ ((t670.length : Int) % 8) then (if ((t670.length : Int) % 8) ≤ (t670.length : Int) then (zelligelaw03_NatGcds.j1 kj4 (t667.take ((ji14) : Int).toNat) (t670.take (((t670.length : Int) % 8) : Int).toNat)) else (none)) else (none)) else (none)) else (none)) = some r := by (rw [hji14] at H; exact H)
          by_cases c15 : 0 ≤ (ji14)
          · rw [if_pos c15] at H
            have c15b0 := eq_true c15
            have c15b1 : decide (0 ≤ (ji14)) = true := decide_eq_true c15
            clear c15
            by_cases c16 : (ji14) ≤ (t667.length : Int)
            · rw [if_pos c16] at H
              have c16b0 := eq_true c16
              have c16b1 : decide ((ji14) ≤ (t667.length : Int)) = true := decide_eq_true c16
              clear c16
              obtain ⟨y673, hy673⟩ : ∃ y_ : List Int, y_ = (t667.take ((ji14) : Int).toNat) := ⟨_, rfl⟩
              replace H : (if 0 ≤ ((t670.length : Int) % 8) then (if ((t670.length : Int) % 8) ≤ (t670.length : Int) then (zelligelaw03_NatGcds.j1 kj4 y673 (t670.take (((t670.length : Int) % 8) : Int).toNat)) else (none)) else (none)) = some r := by (rw [hy673]; with_reducible exact H)
              have Ny673 := Aside0.mk hy673
              clear hy673
              obtain ⟨ji17, hji17⟩ : ∃ j_ : Int, ((t670.length : Int) % 8) = j_ := ⟨_, rfl⟩
              replace H : (if 0 ≤ (ji17) then (if (ji17) ≤ (t670.length : Int) then (zelligelaw03_NatGcds.j1 kj4 y673 (t670.take ((ji17) : Int).toNat)) else (none)) else (none)) = some r := by (rw [hji17] at H; exact H)
              by_cases c18 : 0 ≤ (ji17)
              · rw [if_pos c18] at H
                have c18b0 := eq_true c18
                have c18b1 : decide (0 ≤ (ji17)) = true := decide_eq_true c18
                clear c18
                by_cases c19 : (ji17) ≤ (t670.length : Int)
                · rw [if_pos c19] at H
                  have c19b0 := eq_true c19
                  have c19b1 : decide ((ji17) ≤ (t670.length : Int)) = true := decide_eq_true c19
                  clear c19
                  obtain ⟨y676, hy676⟩ : ∃ y_ : List Int, y_ = (t670.take ((ji17) : Int).toNat) := ⟨_, rfl⟩
                  replace H : (zelligelaw03_NatGcds.j1 kj4 y673 y676) = some r := by (rw [hy676]; with_reducible exact H)
                  have Ny676 := Aside0.mk hy676
                  clear hy676
                  have H' := Aside0.mk H
                  clear H
                  obtain ⟨Ao20, co20, eo20⟩ := Kd.R_slice HO_0.out
                  subst eo20
                  have q21 : ((ji14) : Int) ≤ ((t667.length : Int) : Int) := of_decide_eq_true (by (with_reducible assumption))
                  obtain ⟨i021, hi021, _, hsz21, _⟩ := info_parts info53
                  have hcut21 := cut_to (P := Try.prog) 36 53 .i64 Try.underlying36 hi021 Ao20 t667.length co20 (ji14) (of_decide_eq_true (by (with_reducible assumption))) q21 (Kd.R_reads' HO_0.out).2.1
                  have hr21 := Kd.R_take (m := ((ji14) : Int).toNat) HO_0.out (by omega)
                  have hy21 : y673.length = ((ji14) : Int).toNat := (by rw [Ny673.out, List.length_take]; omega)
                  rw [← Ny673.out] at hr21
                  rw [← hy21] at hr21 hcut21
                  clear hy21 hi021 hsz21 HO_0
                  have HO675 := Aside0.mk hr21
                  clear hr21
                  replace q21 := eq_true q21
                  obtain ⟨Ao22, co22, eo22⟩ := Kd.R_slice HO_1.out
                  subst eo22
                  have q23 : ((ji17) : Int) ≤ ((t670.length : Int) : Int) := of_decide_eq_true (by (with_reducible assumption))
                  obtain ⟨i023, hi023, _, hsz23, _⟩ := info_parts info53
                  have hcut23 := cut_to (P := Try.prog) 36 53 .i64 Try.underlying36 hi023 Ao22 t670.length co22 (ji17) (of_decide_eq_true (by (with_reducible assumption))) q23 (Kd.R_reads' HO_1.out).2.1
                  have hr23 := Kd.R_take (m := ((ji17) : Int).toNat) HO_1.out (by omega)
                  have hy23 : y676.length = ((ji17) : Int).toNat := (by rw [Ny676.out, List.length_take]; omega)
                  rw [← Ny676.out] at hr23
                  rw [← hy23] at hr23 hcut23
                  clear hy23 hi023 hsz23 HO_1
                  have HO678 := Aside0.mk hr23
                  clear hr23
                  replace q23 := eq_true q23
                  go_wp2
                  repeat (go_quiet (fail); try go_wp2)
                  go_meet
                  case rel => exact ⟨_, (y673), (y676), H', ⟨by have := HJ4.out; omega⟩, ⟨by (with_reducible repeat (apply Kd.R_drewN)); exact Kd.R_mono HO675.out (fun k_ hk_ => by simp only [ownBlock_norm] at hk_ ⊢; exact hk_)⟩, ⟨by (with_reducible repeat (apply Kd.R_drewN)); exact Kd.R_mono HO678.out (fun k_ hk_ => by simp only [ownBlock_norm] at hk_ ⊢; exact hk_)⟩, ⟨by repeat ((with_reducible first | exact HB.out | apply pw_below_drewN))⟩⟩
                · rw [if_neg c19] at H
                  exact absurd H (by simp)
              · rw [if_neg c18] at H
                exact absurd H (by simp)
            · rw [if_neg c16] at H
              exact absurd H (by simp)
          · rw [if_neg c15] at H
            exact absurd H (by simp)
        · replace c13 := Bool.eq_false_iff.mpr c13
          subst c13
          rw [if_neg (show ¬ (false = true) by decide)] at H
          have H' := Aside0.mk H
          clear H
          go_wp2
          repeat (go_quiet (fail); try go_wp2)
          go_meet
          case rel => exact ⟨_, (t667), (t670), H', ⟨by have := HJ4.out; omega⟩, ⟨by exact HO_0.out⟩, ⟨by exact HO_1.out⟩, ⟨by with_reducible exact HB.out⟩⟩
      case rest =>
        clear HC12
        obtain ⟨kq, x0_11, x1_11, HA, HJ11, HO_0, HO_1, HB⟩ := hcut
        cases kq with
        | zero => exact absurd HA.out (by simp [zelligelaw03_NatGcds.j1])
        | succ kj11 =>
          have H := HA.out
          clear HA
          simp only [zelligelaw03_NatGcds.j1] at H
          obtain ⟨t679, A24, H⟩ := bindE H
          obtain ⟨t682, A25, H⟩ := bindE H
          obtain ⟨t685, A26, H⟩ := bindE H
          obtain ⟨t688, A27, H⟩ := bindE H
          obtain ⟨t691, A28, H⟩ := bindE H
          by_cases c29 : t691 = true
          · subst c29
            rw [if_pos rfl] at H
            obtain ⟨t692, A30, H⟩ := bindE H
            obtain rfl := Option.some.inj H
            obtain ⟨Ao31, co31, eo31⟩ := Kd.R_slice HO_0.out
            subst eo31
            obtain ⟨Ao32, co32, eo32⟩ := Kd.R_slice HO_1.out
            subst eo32
            go_wp2_with (first | (go_at_call 35; (with_reducible refine (nat_Gcd.calls kj11 _ _ x0_11 _ _ x1_11 t679 _ ?side1 ?side2 ?side3 ?side4 A24.out).mono ?_); (case side1 => exact (Kd.R_reads' HO_0.out).2.2); (case side2 => exact (Kd.R_reads' HO_0.out).2.1); (case side3 => exact (Kd.R_reads' HO_1.out).2.2); (case side4 => exact (Kd.R_reads' HO_1.out).2.1); rintro e w33 ⟨v680, rfl, ho0, hb⟩; have n0_ := Aside0.mk (Kd.R_elder' (by exact HO_0.out) (Kd.R_base ho0) hb); have n1_ := Aside0.mk (Kd.R_elder' (by exact HO_1.out) (Kd.R_base ho0) hb); have n2_ := Aside0.mk (Kd.R_lower (Kd.R_new' (Kd.R_new' ho0 (Kd.R_lt (by exact HO_0.out))) (Kd.R_lt (by exact HO_1.out))) (below_size (by with_reducible exact HB.out))); have n3_ := Aside0.mk (below_step (by with_reducible exact HB.out) hb); clear HO_0; clear HO_1; clear HB; have HO_0 := n0_; have HO_1 := n1_; have HO681 := n2_; have HB := n3_; clear n0_ n1_ n2_ n3_; (try clear hb); (try clear ho0)) | (go_at_call 26; (with_reducible refine (zelligeref03_Of.calls kj11 _ _ x0_11 t682 _ ?side1 ?side2 A25.out).mono ?_); (case side1 => exact (Kd.R_reads' HO_0.out).2.2); (case side2 => exact (Kd.R_reads' HO_0.out).2.1); rintro e w34 ⟨v683, rfl, ho0, hb⟩; have n0_ := Aside0.mk (Kd.R_below (by exact HO_0.out) hb); have n1_ := Aside0.mk (Kd.R_below (by exact HO_1.out) hb); have n2_ := Aside0.mk (Kd.R_below (by exact HO681.out) hb); have n3_ := Aside0.mk (Kd.R_lower ho0 (below_size (by with_reducible exact HB.out))); have n4_ := Aside0.mk (below_step (by with_reducible exact HB.out) hb); clear HO_0; clear HO_1; clear HO681; clear HB; have HO_0 := n0_; have HO_1 := n1_; have HO681 := n2_; have HO684 := n3_; have HB := n4_; clear n0_ n1_ n2_ n3_ n4_; (try clear hb); (try clear ho0)) | (go_at_call 26; (with_reducible refine (zelligeref03_Of.calls kj11 _ _ x1_11 t685 _ ?side1 ?side2 A26.out).mono ?_); (case side1 => exact (Kd.R_reads' HO_1.out).2.2); (case side2 => exact (Kd.R_reads' HO_1.out).2.1); rintro e w35 ⟨v686, rfl, ho0, hb⟩; have n0_ := Aside0.mk (Kd.R_below (by exact HO_0.out) hb); have n1_ := Aside0.mk (Kd.R_below (by exact HO_1.out) hb); have n2_ := Aside0.mk (Kd.R_below (by exact HO681.out) hb); have n3_ := Aside0.mk (Kd.R_elder' (by exact HO684.out) (Kd.R_base ho0) hb); have n4_ := Aside0.mk (Kd.R_lower (Kd.R_new' ho0 (Kd.R_lt (by exact HO684.out))) (below_size (by with_reducible exact HB.out))); have n5_ := Aside0.mk (below_step (by with_reducible exact HB.out) hb); clear HO_0; clear HO_1; clear HO681; clear HO684; clear HB; have HO_0 := n0_; have HO_1 := n1_; have HO681 := n2_; have HO684 := n3_; have HO687 := n4_; have HB := n5_; clear n0_ n1_ n2_ n3_ n4_ n5_; (try clear hb); (try clear ho0); obtain ⟨Ao36, co36, eo36⟩ := Kd.R_slice HO684.out; subst eo36; obtain ⟨Ao37, co37, eo37⟩ := Kd.R_slice HO687.out; subst eo37) | (go_at_call 36; (with_reducible refine (zelligeref03_Gcd.calls kj11 (fun k_ => some k_ = (.slice Ao36 t682.length co36 : Value).ownBlock) _ _ t682 (fun k_ => some k_ = (.slice Ao37 t685.length co37 : Value).ownBlock) _ _ t685 t688 _ ?side1 ?side2 A27.out).mono ?_); (case side1 => exact Kd.R_V (Kd.R_tight rfl (Kd.R_apart' (Kd.R_apart' (Kd.R_apart' (HO684.out) (Kd.R_typed HO_0.out) (by decide)) (Kd.R_typed HO_1.out) (by decide)) (Kd.R_typed HO681.out) (by decide)))); (case side2 => exact Kd.R_V (Kd.R_tight rfl (Kd.R_apart' (Kd.R_apart' (Kd.R_apart' (HO687.out) (Kd.R_typed HO_0.out) (by decide)) (Kd.R_typed HO_1.out) (by decide)) (Kd.R_typed HO681.out) (by decide)))); rintro e w38 ⟨v689, rfl, ho0, hb⟩; have n0_ := Aside0.mk (Kd.R_below (by exact HO_0.out) hb); have n1_ := Aside0.mk (Kd.R_below (by exact HO_1.out) hb); have n2_ := Aside0.mk (Kd.R_below (by exact HO681.out) hb); have n3_ := Aside0.mk (Kd.R_below (by exact HO684.out) hb); have n4_ := Aside0.mk (Kd.R_below (by exact HO687.out) hb); have n5_ := Aside0.mk (Kd.V_lower (Kd.V_mono (ok' := fun k_ => some k_ ≠ (.slice Ao31 x0_11.length co31 : Value).ownBlock ∧ some k_ ≠ (.slice Ao32 x1_11.length co32 : Value).ownBlock ∧ some k_ ≠ (v680 : Value).ownBlock) ho0 (fun k_ hk_ => ⟨Or.elim hk_ (fun hs_ => Or.elim hs_ (fun hs_ => ((Kd.R_apart' (Kd.R_apart' (Kd.R_apart' (HO684.out) (Kd.R_typed HO_0.out) (by decide)) (Kd.R_typed HO_1.out) (by decide)) (Kd.R_typed HO681.out) (by decide)).1 k_ hs_.symm).1.1.2) (fun hs_ => ((Kd.R_apart' (Kd.R_apart' (Kd.R_apart' (HO687.out) (Kd.R_typed HO_0.out) (by decide)) (Kd.R_typed HO_1.out) (by decide)) (Kd.R_typed HO681.out) (by decide)).1 k_ hs_.symm).1.1.2)) (fun hn_ => (Kd.fresh' (Kd.R_lt (by exact HO_0.out)) k_ hn_)), Or.elim hk_ (fun hs_ => Or.elim hs_ (fun hs_ => ((Kd.R_apart' (Kd.R_apart' (Kd.R_apart' (HO684.out) (Kd.R_typed HO_0.out) (by decide)) (Kd.R_typed HO_1.out) (by decide)) (Kd.R_typed HO681.out) (by decide)).1 k_ hs_.symm).1.2) (fun hs_ => ((Kd.R_apart' (Kd.R_apart' (Kd.R_apart' (HO687.out) (Kd.R_typed HO_0.out) (by decide)) (Kd.R_typed HO_1.out) (by decide)) (Kd.R_typed HO681.out) (by decide)).1 k_ hs_.symm).1.2)) (fun hn_ => (Kd.fresh' (Kd.R_lt (by exact HO_1.out)) k_ hn_)), Or.elim hk_ (fun hs_ => Or.elim hs_ (fun hs_ => ((Kd.R_apart' (Kd.R_apart' (Kd.R_apart' (HO684.out) (Kd.R_typed HO_0.out) (by decide)) (Kd.R_typed HO_1.out) (by decide)) (Kd.R_typed HO681.out) (by decide)).1 k_ hs_.symm).2) (fun hs_ => ((Kd.R_apart' (Kd.R_apart' (Kd.R_apart' (HO687.out) (Kd.R_typed HO_0.out) (by decide)) (Kd.R_typed HO_1.out) (by decide)) (Kd.R_typed HO681.out) (by decide)).1 k_ hs_.symm).2)) (fun hn_ => (Kd.fresh' (Kd.R_lt (by exact HO681.out)) k_ hn_))⟩)) (below_size (by with_reducible exact HB.out))); have n6_ := Aside0.mk (below_step (by with_reducible exact HB.out) hb); clear HO_0; clear HO_1; clear HO681; clear HO684; clear HO687; clear HB; have HO_0 := n0_; have HO_1 := n1_; have HO681 := n2_; have HO684 := n3_; have HO687 := n4_; have HO690 := n5_; have HB := n6_; clear n0_ n1_ n2_ n3_ n4_ n5_ n6_; (try clear hb); (try clear ho0); obtain ⟨Ao39, co39, eo39⟩ := Kd.R_slice HO681.out; subst eo39; obtain ⟨Ao40, co40, eo40⟩ := Kd.V_slice HO690.out; subst eo40) | (go_at_call 29; (with_reducible refine (zelligeref03_Same.calls kj11 _ _ t679 _ _ t688 true _ ?side1 ?side2 ?side3 ?side4 A28.out).mono ?_); (case side1 => exact (Kd.R_reads' HO681.out).2.2); (case side2 => exact (Kd.R_reads' HO681.out).2.1); (case side3 => exact (Kd.V_reads' HO690.out).2.2); (case side4 => exact (Kd.V_reads' HO690.out).2.1); rintro e w41 ⟨rfl, hb⟩; have n0_ := Aside0.mk (Kd.R_below (by exact HO_0.out) hb); have n1_ := Aside0.mk (Kd.R_below (by exact HO_1.out) hb); have n2_ := Aside0.mk (Kd.R_below (by exact HO681.out) hb); have n3_ := Aside0.mk (Kd.R_below (by exact HO684.out) hb); have n4_ := Aside0.mk (Kd.R_below (by exact HO687.out) hb); have n5_ := Aside0.mk (Kd.V_below (by exact HO690.out) hb); have n6_ := Aside0.mk (below_step (by with_reducible exact HB.out) hb); clear HO_0; clear HO_1; clear HO681; clear HO684; clear HO687; clear HO690; clear HB; have HO_0 := n0_; have HO_1 := n1_; have HO681 := n2_; have HO684 := n3_; have HO687 := n4_; have HO690 := n5_; have HB := n6_; clear n0_ n1_ n2_ n3_ n4_ n5_ n6_; (try clear hb)) | (go_at_call 27; (with_reducible refine (zelligelaw03_lives.calls kj11  t692 _ A30.out).mono ?_); rintro e w42 ⟨rfl, hb⟩; have n0_ := Aside0.mk (Kd.R_below (by exact HO_0.out) hb); have n1_ := Aside0.mk (Kd.R_below (by exact HO_1.out) hb); have n2_ := Aside0.mk (Kd.R_below (by exact HO681.out) hb); have n3_ := Aside0.mk (Kd.R_below (by exact HO684.out) hb); have n4_ := Aside0.mk (Kd.R_below (by exact HO687.out) hb); have n5_ := Aside0.mk (Kd.V_below (by exact HO690.out) hb); have n6_ := Aside0.mk (below_step (by with_reducible exact HB.out) hb); clear HO_0; clear HO_1; clear HO681; clear HO684; clear HO687; clear HO690; clear HB; have HO_0 := n0_; have HO_1 := n1_; have HO681 := n2_; have HO684 := n3_; have HO687 := n4_; have HO690 := n5_; have HB := n6_; clear n0_ n1_ n2_ n3_ n4_ n5_ n6_; (try clear hb)))
            repeat (go_quiet (fail); try go_wp2_with (fail))
            go_ret
            exact ⟨by rfl, by with_reducible exact HB.out⟩
          · replace c29 := Bool.eq_false_iff.mpr c29
            subst c29
            rw [if_neg (show ¬ (false = true) by decide)] at H
            exact absurd (Option.some.inj (H.trans (congrArg some hT.out))) (by decide)

/-- THE ONE PURE STATEMENT of zelligelaw03_NatGcds: yours. -/
def zelligelaw03_NatGcds.Pure : Prop := ∀ (l0 : List Int) (l1 : List Int), l0.length ≤ maxLen → l0.length * 4 ≤ 140737488351232 → (∀ x ∈ l0, (Lit.int .u32 x).wf = true) → l1.length ≤ maxLen → l1.length * 4 ≤ 140737488351232 → (∀ x ∈ l1, (Lit.int .u32 x).wf = true) → ∃ k, zelligelaw03_NatGcds.f k l0 l1 = some true
theorem zelligelaw03_NatGcds.walk (P : zelligelaw03_NatGcds.Pure) (a0 : Option Addr) (len0 cap0 : Nat) (z0 : List Int) (a1 : Option Addr) (len1 cap1 : Nat) (z1 : List Int) (w : World) (w0 : (a0 = none ∧ len0 = 0 ∧ cap0 = 0 ∧ z0 = []) ∨ ∃ x, a0 = some x ∧ len0 ≤ cap0 ∧ cap0 ≤ maxLen ∧ z0.length = cap0 ∧ (∀ i, i < z0.length → w.cell? (x.add i) = some (.int .u32 (z0.getD i 0))) ∧ ∀ n ∈ z0, (Lit.int .u32 n).wf = true) (y0 : len0 * 4 ≤ 140737488351232) (w1 : (a1 = none ∧ len1 = 0 ∧ cap1 = 0 ∧ z1 = []) ∨ ∃ x, a1 = some x ∧ len1 ≤ cap1 ∧ cap1 ≤ maxLen ∧ z1.length = cap1 ∧ (∀ i, i < z1.length → w.cell? (x.add i) = some (.int .u32 (z1.getD i 0))) ∧ ∀ n ∈ z1, (Lit.int .u32 n).wf = true) (y1 : len1 * 4 ≤ 140737488351232) :
    Calls Try.prog 10 #[.slice a0 len0 cap0, .slice a1 len1 cap1] w fun e w' => e = .returned (.bool true) ∧ Below w.heap.size w w' := by
  obtain ⟨l0, rfl, hr0, hm0, hw0, hc0⟩ := ReadsInt.ofRowC w0
  obtain ⟨l1, rfl, hr1, hm1, hw1, hc1⟩ := ReadsInt.ofRowC w1
  obtain ⟨k, h⟩ := P l0 l1 hm0 y0 hw0 hm1 y1 hw1
  refine (zelligelaw03_NatGcds.calls k _ _ l0 _ _ l1 true w (Kd.C_of_reads (d := (0 : Int)) (h1 := fun _ => rfl) hr0) hc0 (Kd.C_of_reads (d := (0 : Int)) (h1 := fun _ => rfl) hr1) hc1 h ⟨rfl⟩).mono ?_
  rintro e w' ⟨rfl, hd⟩
  exact ⟨rfl, hd⟩

end Go.Proofs.Ytafhcchjjlbojaa.ZNat
