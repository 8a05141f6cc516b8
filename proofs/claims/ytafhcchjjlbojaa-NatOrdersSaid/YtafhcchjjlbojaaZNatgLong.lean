-- printed by zprint.py, a program of this session's
import Derived.Test.YtafhcchjjlbojaaZNat0
import Derived.Test.YtafhcchjjlbojaaZNatgCore
import Derived.Test.YtafhcchjjlbojaaZNatgOff
namespace Go.Proofs.Ytafhcchjjlbojaa.ZNat
open Go.RowKit Go.Proofs.YtafhcchjjlbojaaW.PrintWords Go.Proofs.YtafhcchjjlbojaaW.PrintLast Go.Proofs.YtafhcchjjlbojaaW.PrintMore
set_option linter.unusedVariables false
set_option linter.unusedSimpArgs false

/-! ### nat_long: function 72 -/
mutual
def nat_long.l0 : Nat → Int → List Int → List Int → Int → List Int → Int → Int → Int → Option (List Int × List Int)
  | 0, _, _, _, _, _, _, _, _ => none
  | k + 1, x6, x7, x8, x9, x10, x11, x12, x13 => if x13 ≥ 0 then (if 0 ≤ x13 then (if x13 ≤ (wrap64 ((wrap64 (x13 + x9)) + 1)) then (if (wrap64 ((wrap64 (x13 + x9)) + 1)) ≤ (x7.length : Int) then ((nat_guess.f k ((x7.take ((wrap64 ((wrap64 (x13 + x9)) + 1)) : Int).toNat).drop (x13 : Int).toNat) x11 x12).bind fun t203 => ((nat_offX.f k x7 x13 (wrap64 ((wrap64 (x13 + x9)) + 1)) x8 t203).bind fun bt204 => (if bt204.1 = true then ((nat_backX.f k bt204.2 x13 (wrap64 ((wrap64 (x13 + x9)) + 1)) x8).bind fun t206 => (if x13 < (x10.length : Int) then (nat_long.l0 k x6 t206 x8 x9 (x10.set (x13 : Int).toNat ((IntKind.u64.wrap (t203 - 1)) % 4294967296)) x11 x12 (wrap64 (x13 - 1))) else (none))) else (if x13 < (x10.length : Int) then (nat_long.l0 k x6 bt204.2 x8 x9 (x10.set (x13 : Int).toNat ((t203) % 4294967296)) x11 x12 (wrap64 (x13 - 1))) else (none))))) else (none)) else (none)) else (none)) else ((nat_trim_own.f k x7).bind fun t209 => (nat_long.l1 k x6 x10 t209 0 (wrap64 ((t209.length : Int) - 1))))
def nat_long.l1 : Nat → Int → List Int → List Int → Int → Int → Option (List Int × List Int)
  | 0, _, _, _, _, _ => none
  | k + 1, x6, x10, x16, x17, x18 => if x18 ≥ 0 then (if 0 ≤ x18 then (if x18 < (x16.length : Int) then (if 0 ≤ x6 then (nat_long.l1 k x6 x10 (x16.set (x18 : Int).toNat ((shr .u64 (Go.bits .or .u64 (IntKind.u64.wrap (x17 * 4294967296)) (IntKind.u64.wrap (rd x16 x18))) x6) % 4294967296)) (Go.bits .or .u64 (IntKind.u64.wrap (x17 * 4294967296)) (IntKind.u64.wrap (rd x16 x18))) (wrap64 (x18 - 1))) else (none)) else (none)) else (none)) else ((nat_trim_own.f k x10).bind fun t214 => ((nat_trim_own.f k x16).bind fun t217 => (some (t214, t217))))
end
def nat_long.f (k : Nat) (l0 : List Int) (l1 : List Int) : Option (List Int × List Int) := if 0 ≤ (wrap64 ((l1.length : Int) - 1)) then (if (wrap64 ((l1.length : Int) - 1)) < (l1.length : Int) then ((bits_LeadingZeros32.f (rd l1 (wrap64 ((l1.length : Int) - 1)))).bind fun t184 => ((nat_shift.f k l0 t184).bind fun t185 => ((nat_shift.f k l1 t184).bind fun t188 => ((nat_trim_own.f k t188).bind fun t191 => (if 0 ≤ (wrap64 ((t185.length : Int) - (t191.length : Int))) then (if (wrap64 ((t185.length : Int) - (t191.length : Int)) : Int).toNat ≤ 70368744177664 then ((some (List.replicate (wrap64 ((t185.length : Int) - (t191.length : Int)) : Int).toNat 0 : List Int)).bind fun y194 => (if 0 ≤ (wrap64 ((t191.length : Int) - 1)) then (if (wrap64 ((t191.length : Int) - 1)) < (t191.length : Int) then (if 0 ≤ (wrap64 ((t191.length : Int) - 2)) then (if (wrap64 ((t191.length : Int) - 2)) < (t191.length : Int) then (nat_long.l0 k t184 t185 t191 (t191.length : Int) y194 (IntKind.u64.wrap (rd t191 (wrap64 ((t191.length : Int) - 1)))) (IntKind.u64.wrap (rd t191 (wrap64 ((t191.length : Int) - 2)))) (wrap64 ((y194.length : Int) - 1))) else (none)) else (none)) else (none)) else (none))) else (none)) else (none)))))) else (none)) else (none)
theorem nat_long.mono_l : ∀ k, (∀ y0 y1 y2 y3 y4 y5 y6 y7, LeO (nat_long.l0 k y0 y1 y2 y3 y4 y5 y6 y7) (nat_long.l0 (k + 1) y0 y1 y2 y3 y4 y5 y6 y7)) ∧ (∀ y0 y1 y2 y3 y4, LeO (nat_long.l1 k y0 y1 y2 y3 y4) (nat_long.l1 (k + 1) y0 y1 y2 y3 y4))
  | 0 => ⟨fun _ _ _ _ _ _ _ _ r h => by simp [nat_long.l0] at h, fun _ _ _ _ _ r h => by simp [nat_long.l1] at h⟩
  | k + 1 => by
    obtain ⟨ih0, ih1⟩ := nat_long.mono_l k
    refine ⟨?_, ?_⟩
    · intro y0 y1 y2 y3 y4 y5 y6 y7
      unfold nat_long.l0
      repeat' first
      | (with_reducible exact ih0 _ _ _ _ _ _ _ _)
      | (with_reducible exact ih1 _ _ _ _ _)
      | (with_reducible exact nat_backX.mono _ _ _ _ _)
      | (with_reducible exact nat_guess.mono _ _ _ _)
      | (with_reducible exact nat_offX.mono _ _ _ _ _ _)
      | (with_reducible exact nat_trim_own.mono _ _)
      | (with_reducible exact LeO.refl _)
      | (with_reducible refine LeO.ite ?_ ?_)
      | (with_reducible refine LeO.bind ?_ (fun _ => ?_))
    · intro y0 y1 y2 y3 y4
      unfold nat_long.l1
      repeat' first
      | (with_reducible exact ih1 _ _ _ _ _)
      | (with_reducible exact nat_trim_own.mono _ _)
      | (with_reducible exact LeO.refl _)
      | (with_reducible refine LeO.ite ?_ ?_)
      | (with_reducible refine LeO.bind ?_ (fun _ => ?_))
theorem nat_long.mono : ∀ a0 a1 k, LeO (nat_long.f k a0 a1) (nat_long.f (k + 1) a0 a1) := by
  intro a0 a1 k
  obtain ⟨ih0, ih1⟩ := nat_long.mono_l k
  unfold nat_long.f
  repeat' first
      | (with_reducible exact ih0 _ _ _ _ _ _ _ _)
      | (with_reducible exact nat_shift.mono _ _ _)
      | (with_reducible exact nat_trim_own.mono _ _)
      | (with_reducible exact LeO.refl _)
      | (with_reducible refine LeO.ite ?_ ?_)
      | (with_reducible refine LeO.bind ?_ (fun _ => ?_))
set_option maxHeartbeats 8000000 in
set_option maxRecDepth 100000 in
theorem nat_long.calls (k : Nat) (A0 : Option Addr) (c0 : Nat) (l0 : List Int) (A1 : Option Addr) (c1 : Nat) (l1 : List Int) (r1 : List Int) (r2 : List Int) (w : World) (hr0 : Kd.C (Kd.int .u32) w A0 l0.length l0) (hc0 : l0.length ≤ c0) (hr1 : Kd.C (Kd.int .u32) w A1 l1.length l1) (hc1 : l1.length ≤ c1) (h : nat_long.f k l0 l1 = some (r1, r2)) :
    Calls Try.prog 72 #[.slice A0 l0.length c0, .slice A1 l1.length c1] w fun e w' => ∃ v0_ v1_ : Value, e = .returned (.tuple #[v0_, v1_]) ∧ Kd.R (Kd.int .u32) 53 w' w.heap.size (fun k_ => some k_ ≠ (v1_ : Value).ownBlock) v0_ r1 ∧ Kd.R (Kd.int .u32) 53 w' w.heap.size (fun k_ => some k_ ≠ (v0_ : Value).ownBlock) v1_ r2 ∧ Below w.heap.size w w' := by
  have HR0 := Aside0.mk hr0
  have HC0 := Aside0.mk hc0
  clear hr0 hc0
  have HR1 := Aside0.mk hr1
  have HC1 := Aside0.mk hc1
  clear hr1 hc1
  have HB := Aside0.mk (Below.refl w.heap.size w)
  have H : (if 0 ≤ (wrap64 ((l1.length : Int) - 1)) then (if (wrap64 ((l1.length : Int) - 1)) < (l1.length : Int) then ((bits_LeadingZeros32.f (rd l1 (wrap64 ((l1.length : Int) - 1)))).bind fun t184 => ((nat_shift.f k l0 t184).bind fun t185 => ((nat_shift.f k l1 t184).bind fun t188 => ((nat_trim_own.f k t188).bind fun t191 => (if 0 ≤ (wrap64 ((t185.length : Int) - (t191.length : Int))) then (if (wrap64 ((t185.length : Int) - (t191.length : Int)) : Int).toNat ≤ 70368744177664 then ((some (List.replicate (wrap64 ((t185.length : Int) - (t191.length : Int)) : Int).toNat 0 : List Int)).bind fun y194 => (if 0 ≤ (wrap64 ((t191.length : Int) - 1)) then (if (wrap64 ((t191.length : Int) - 1)) < (t191.length : Int) then (if 0 ≤ (wrap64 ((t191.length : Int) - 2)) then (if (wrap64 ((t191.length : Int) - 2)) < (t191.length : Int) then (nat_long.l0 k t184 t185 t191 (t191.length : Int) y194 (IntKind.u64.wrap (rd t191 (wrap64 ((t191.length : Int) - 1)))) (IntKind.u64.wrap (rd t191 (wrap64 ((t191.length : Int) - 2)))) (wrap64 ((y194.length : Int) - 1))) else (none)) else (none)) else (none)) else (none))) else (none)) else (none)))))) else (none)) else (none)) = some (r1, r2) := h
  clear h
  obtain ⟨ji3, hji3⟩ : ∃ j_ : Int, (wrap64 ((l1.length : Int) - 1)) = j_ := ⟨_, rfl⟩
  replace H : (if 0 ≤ (ji3) then (if (ji3) < (l1.length : Int) then ((bits_LeadingZeros32.f (rd l1 (ji3))).bind fun t184 => ((nat_shift.f k l0 t184).bind fun t185 => ((nat_shift.f k l1 t184).bind fun t188 => ((nat_trim_own.f k t188).bind fun t191 => (if 0 ≤ (wrap64 ((t185.length : Int) - (t191.length : Int))) then (if (wrap64 ((t185.length : Int) - (t191.length : Int)) : Int).toNat ≤ 70368744177664 then ((some (List.replicate (wrap64 ((t185.length : Int) - (t191.length : Int)) : Int).toNat 0 : List Int)).bind fun y194 => (if 0 ≤ (wrap64 ((t191.length : Int) - 1)) then (if (wrap64 ((t191.length : Int) - 1)) < (t191.length : Int) then (if 0 ≤ (wrap64 ((t191.length : Int) - 2)) then (if (wrap64 ((t191.length : Int) - 2)) < (t191.length : Int) then (nat_long.l0 k t184 t185 t191 (t191.length : Int) y194 (IntKind.u64.wrap (rd t191 (wrap64 ((t191.length : Int) - 1)))) (IntKind.u64.wrap (rd t191 (wrap64 ((t191.length : Int) - 2)))) (wrap64 ((y194.length : Int) - 1))) else (none)) else (none)) else (none)) else (none))) else (none)) else (none)))))) else (none)) else (none)) = some (r1, r2) := by (rw [hji3] at H; exact H)
  have hji3w : (IntKind.i64.wrap ((l1.length : Int) - 1)) = ji3 := (i64_w _).trans hji3
  by_cases c4 : 0 ≤ (ji3)
  · rw [if_pos c4] at H
    have c4b0 : decide (0 ≤ (ji3)) = true := decide_eq_true c4
    clear c4
    by_cases c5 : (ji3) < (l1.length : Int)
    · rw [if_pos c5] at H
      have c5b0 : decide ((ji3) < (l1.length : Int)) = true := decide_eq_true c5
      clear c5
      obtain ⟨t184, A6, H⟩ := bindE H
      obtain ⟨t185, A7, H⟩ := bindE H
      obtain ⟨t188, A8, H⟩ := bindE H
      obtain ⟨t191, A9, H⟩ := bindE H
      obtain ⟨ji10, hji10⟩ : ∃ j_ : Int, (wrap64 ((t185.length : Int) - (t191.length : Int))) = j_ := ⟨_, rfl⟩
      replace H : (if 0 ≤ (ji10) then (if (ji10 : Int).toNat ≤ 70368744177664 then ((some (List.replicate (ji10 : Int).toNat 0 : List Int)).bind fun y194 => (if 0 ≤ (wrap64 ((t191.length : Int) - 1)) then (if (wrap64 ((t191.length : Int) - 1)) < (t191.length : Int) then (if 0 ≤ (wrap64 ((t191.length : Int) - 2)) then (if (wrap64 ((t191.length : Int) - 2)) < (t191.length : Int) then (nat_long.l0 k t184 t185 t191 (t191.length : Int) y194 (IntKind.u64.wrap (rd t191 (wrap64 ((t191.length : Int) - 1)))) (IntKind.u64.wrap (rd t191 (wrap64 ((t191.length : Int) - 2)))) (wrap64 ((y194.length : Int) - 1))) else (none)) else (none)) else (none)) else (none))) else (none)) else (none)) = some (r1, r2) := by (rw [hji10] at H; exact H)
      have hji10w : (IntKind.i64.wrap ((t185.length : Int) - (t191.length : Int))) = ji10 := (i64_w _).trans hji10
      by_cases c11 : 0 ≤ (ji10)
      · rw [if_pos c11] at H
        have c11b0 := eq_true c11
        have c11b1 : decide (0 ≤ (ji10)) = true := decide_eq_true c11
        clear c11
        by_cases c12 : (ji10 : Int).toNat ≤ 70368744177664
        · rw [if_pos c12] at H
          have c12b0 := eq_true c12
          have c12b1 : decide ((ji10 : Int).toNat ≤ 70368744177664) = true := decide_eq_true c12
          clear c12
          obtain ⟨y194, hy194⟩ : ∃ y_ : List Int, y_ = (List.replicate (ji10 : Int).toNat 0) := ⟨_, rfl⟩
          replace H : (if 0 ≤ (wrap64 ((t191.length : Int) - 1)) then (if (wrap64 ((t191.length : Int) - 1)) < (t191.length : Int) then (if 0 ≤ (wrap64 ((t191.length : Int) - 2)) then (if (wrap64 ((t191.length : Int) - 2)) < (t191.length : Int) then (nat_long.l0 k t184 t185 t191 (t191.length : Int) y194 (IntKind.u64.wrap (rd t191 (wrap64 ((t191.length : Int) - 1)))) (IntKind.u64.wrap (rd t191 (wrap64 ((t191.length : Int) - 2)))) (wrap64 ((y194.length : Int) - 1))) else (none)) else (none)) else (none)) else (none)) = some (r1, r2) := by (have H2_ := (Option.bind_some _ _).symm.trans H; rw [hy194]; with_reducible exact H2_)
          have Ny194 := Aside0.mk hy194
          clear hy194
          obtain ⟨ji13, hji13⟩ : ∃ j_ : Int, (wrap64 ((t191.length : Int) - 1)) = j_ := ⟨_, rfl⟩
          replace H : (if 0 ≤ (ji13) then (if (ji13) < (t191.length : Int) then (if 0 ≤ (wrap64 ((t191.length : Int) - 2)) then (if (wrap64 ((t191.length : Int) - 2)) < (t191.length : Int) then (nat_long.l0 k t184 t185 t191 (t191.length : Int) y194 (IntKind.u64.wrap (rd t191 (ji13))) (IntKind.u64.wrap (rd t191 (wrap64 ((t191.length : Int) - 2)))) (wrap64 ((y194.length : Int) - 1))) else (none)) else (none)) else (none)) else (none)) = some (r1, r2) := by (rw [hji13] at H; exact H)
          have hji13w : (IntKind.i64.wrap ((t191.length : Int) - 1)) = ji13 := (i64_w _).trans hji13
          by_cases c14 : 0 ≤ (ji13)
          · rw [if_pos c14] at H
            have c14b0 : decide (0 ≤ (ji13)) = true := decide_eq_true c14
            clear c14
            by_cases c15 : (ji13) < (t191.length : Int)
            · rw [if_pos c15] at H
              have c15b0 : decide ((ji13) < (t191.length : Int)) = true := decide_eq_true c15
              clear c15
              obtain ⟨ji16, hji16⟩ : ∃ j_ : Int, (wrap64 ((t191.length : Int) - 2)) = j_ := ⟨_, rfl⟩
              replace H : (if 0 ≤ (ji16) then (if (ji16) < (t191.length : Int) then (nat_long.l0 k t184 t185 t191 (t191.length : Int) y194 (IntKind.u64.wrap (rd t191 (ji13))) (IntKind.u64.wrap (rd t191 (ji16))) (wrap64 ((y194.length : Int) - 1))) else (none)) else (none)) = some (r1, r2) := by (rw [hji16] at H; exact H)
              have hji16w : (IntKind.i64.wrap ((t191.length : Int) - 2)) = ji16 := (i64_w _).trans hji16
              by_cases c17 : 0 ≤ (ji16)
              · rw [if_pos c17] at H
                have c17b0 : decide (0 ≤ (ji16)) = true := decide_eq_true c17
                clear c17
                by_cases c18 : (ji16) < (t191.length : Int)
                · rw [if_pos c18] at H
                  have c18b0 : decide ((ji16) < (t191.length : Int)) = true := decide_eq_true c18
                  clear c18
                  have H' := Aside0.mk H
                  clear H
                  have p183 : 0 ≤ ((ji3) : Int) := of_decide_eq_true (by (with_reducible assumption))
                  have q183 : (ji3) < (l1.length : Int) := of_decide_eq_true (by (with_reducible assumption))
                  obtain ⟨ad183, e183, hx183_0⟩ := Kd.at_int HR1.out (ji3) p183 q183
                  cases e183
                  replace p183 := eq_true p183
                  replace q183 := eq_true q183
                  go_enter Try.func72, Try.ntmps72
                  go_wp2_with (first | (go_at_call 79; (with_reducible refine (bits_LeadingZeros32.calls (rd l1 (ji3)) t184 _ A6.out).mono ?_); rintro e w' ⟨rfl, ⟨nd, rfl⟩⟩) | (go_at_call 80; (with_reducible refine (nat_shift.calls k _ _ l0 t184 t185 _ ?side1 ?side2 A7.out).mono ?_); (case side1 => exact HR0.out); (case side2 => exact HC0.out); rintro e w19 ⟨v186, rfl, ho0, hb⟩; have n0_ := Aside0.mk (Kd.R_lower ho0 (below_size (by repeat ((with_reducible first | exact HB.out | apply pw_below_drewN))))); have n1_ := Aside0.mk (below_step (by repeat ((with_reducible first | exact HB.out | apply pw_below_drewN))) hb); clear HB; have HO187 := n0_; have HB := n1_; clear n0_ n1_; (try clear hb); (try clear ho0)) | (go_at_call 80; (with_reducible refine (nat_shift.calls k _ _ l1 t184 t188 _ ?side1 ?side2 A8.out).mono ?_); (case side1 => repeat (exact (Kd.C_below HR1.out HB.out))); (case side2 => exact HC1.out); rintro e w20 ⟨v189, rfl, ho0, hb⟩; have n0_ := Aside0.mk (Kd.R_elder' (by exact HO187.out) (Kd.R_base ho0) hb); have n1_ := Aside0.mk (Kd.R_lower (Kd.R_new' ho0 (Kd.R_lt (by exact HO187.out))) (below_size (by with_reducible exact HB.out))); have n2_ := Aside0.mk (below_step (by with_reducible exact HB.out) hb); clear HO187; clear HB; have HO187 := n0_; have HO190 := n1_; have HB := n2_; clear n0_ n1_ n2_; (try clear hb); (try clear ho0); obtain ⟨Ao21, co21, eo21⟩ := Kd.R_slice HO190.out; subst eo21) | (go_at_call 56; (with_reducible refine (nat_trim_own.calls k (fun k_ => some k_ = (.slice Ao21 t188.length co21 : Value).ownBlock) (.slice Ao21 t188.length co21) t188 t191 w _ ?side1 ?side2 A9.out).mono ?_); (case side1 => repeat ((with_reducible exact HB.out))); (case side2 => exact Kd.R_tight rfl HO190.out); rintro e w22 ⟨v192, rfl, ho0, hb, hkp⟩; have n0_ := Aside0.mk (Kd.R_mono (ok' := fun k_ => some k_ ≠ (v192 : Value).ownBlock) (Kd.R_keptB (HO187.out) hkp (fun k_ hk_ hs_ => (hk_.2) hs_)) (fun k_ hk_ => fun e_ => Or.elim (ho0.1 k_ e_.symm) (fun hs_ => hk_.2.1 hs_) (fun hn_ => Nat.not_le.2 hk_.2.2 hn_))); have n1_ := Aside0.mk (Kd.R_mono (ok' := fun k_ => some k_ ≠ (v186 : Value).ownBlock) ho0 (fun k_ hk_ => Or.elim hk_ (fun hs_ => fun e_ => (((HO187.out).1 k_ e_.symm).2) hs_) (fun hn_ => (Kd.fresh' (Kd.R_lt (by exact HO187.out)) k_ hn_)))); have n2_ := Aside0.mk (hb); clear HO187; clear HB; clear HO190; have HO187 := n0_; have HO193 := n1_; have HB := n2_; clear n0_ n1_ n2_; (try clear hb); (try clear hkp); (try clear ho0); obtain ⟨Ao23, co23, eo23⟩ := Kd.R_slice HO193.out; subst eo23; obtain ⟨Ao24, co24, eo24⟩ := Kd.R_slice HO187.out; subst eo24) | ((with_reducible refine gate_dst (N := 39) rfl ?_); refine Kd.R_make (Kd.int .u32) _ 53 rfl (N := 39) rfl 36 _ _ rfl ji10 rfl rfl Try.underlying36 (.int .u32 0) 4 info53 rfl (by decide) (by omega) 0 (ok := fun _ => True) (okp := fun _ => True) rfl (fun _ hk => hk) trivial (of_decide_eq_true (by (with_reducible assumption))) (Nat.le_trans (Nat.mul_le_mul_right _ (of_decide_eq_true (by (with_reducible assumption)) : ji10.toNat ≤ 70368744177664)) (by omega)) (Below.refl _ _) (Nat.le_refl _) ?_; intro v195 w25 ho26 hb hg_ hnew_; clear hg_ hnew_; (rw [← Ny194.out] at ho26); have n0_ := Aside0.mk (Kd.R_elder' (by exact HO187.out) (Kd.R_base ho26) hb); have n1_ := Aside0.mk (Kd.R_elder' (by exact HO193.out) (Kd.R_base ho26) hb); have n2_ := Aside0.mk (Kd.R_lower (Kd.R_new' (Kd.R_new' ho26 (Kd.R_lt (by exact HO187.out))) (Kd.R_lt (by exact HO193.out))) (below_size (by with_reducible exact HB.out))); have n3_ := Aside0.mk (below_step (by with_reducible exact HB.out) hb); clear HO187; clear HO193; clear HB; have HO187 := n0_; have HO193 := n1_; have HO196 := n2_; have HB := n3_; clear n0_ n1_ n2_ n3_; clear hb ho26; have p197 : 0 ≤ ((ji13) : Int) := of_decide_eq_true (by (with_reducible assumption)); have q197 : (ji13) < (t191.length : Int) := of_decide_eq_true (by (with_reducible assumption)); obtain ⟨ad197, e197, hx197_0⟩ := Kd.at_int (Kd.R_reads' HO193.out).2.2 (ji13) p197 q197; cases e197; replace p197 := eq_true p197; replace q197 := eq_true q197; have p198 : 0 ≤ ((ji16) : Int) := of_decide_eq_true (by (with_reducible assumption)); have q198 : (ji16) < (t191.length : Int) := of_decide_eq_true (by (with_reducible assumption)); obtain ⟨ad198, e198, hx198_0⟩ := Kd.at_int (Kd.R_reads' HO193.out).2.2 (ji16) p198 q198; obtain rfl : ad197 = ad198 := (by injection e198); replace p198 := eq_true p198; replace q198 := eq_true q198; obtain ⟨Ao27, co27, eo27⟩ := Kd.R_slice HO196.out; subst eo27))
                  repeat (go_quiet (fail); try go_wp2_with (fail))
                  go_loopg [13] k (fun kq v13 w' => ∃ (x7_1 : List Int) (x8_1 : List Int) (x10_1 : List Int) (x13_1 : Int), v13 = .int .i64 x13_1 ∧ Aside0 (nat_long.l0 kq t184 x7_1 x8_1 (t191.length : Int) x10_1 (IntKind.u64.wrap (rd t191 (ji13))) (IntKind.u64.wrap (rd t191 (ji16))) x13_1 = some (r1, r2)) ∧ Aside0 (kq ≤ k) ∧ Aside0 (Kd.R (Kd.int .u32) 53 w' w.heap.size (fun k_ => some k_ ≠ ((.slice (some ad197) t191.length co23) : Value).ownBlock ∧ some k_ ≠ ((.slice Ao27 y194.length co27) : Value).ownBlock) (.slice Ao24 t185.length co24) x7_1) ∧ Aside0 (Kd.R (Kd.int .u32) 53 w' w.heap.size (fun k_ => some k_ ≠ ((.slice Ao24 t185.length co24) : Value).ownBlock ∧ some k_ ≠ ((.slice Ao27 y194.length co27) : Value).ownBlock) (.slice (some ad197) t191.length co23) x8_1) ∧ Aside0 (Kd.R (Kd.int .u32) 53 w' w.heap.size (fun k_ => some k_ ≠ ((.slice Ao24 t185.length co24) : Value).ownBlock ∧ some k_ ≠ ((.slice (some ad197) t191.length co23) : Value).ownBlock) (.slice Ao27 y194.length co27) x10_1) ∧ Aside0 (Below w.heap.size w w'))
                  case atStart => exact ⟨(t185), (t191), (y194), (wrap64 ((y194.length : Int) - 1)), (by rfl), H', ⟨Nat.le_refl _⟩, ⟨by (with_reducible repeat (apply Kd.R_drewN)); exact HO187.out⟩, ⟨by (with_reducible repeat (apply Kd.R_drewN)); exact HO193.out⟩, ⟨by (with_reducible repeat (apply Kd.R_drewN)); exact Kd.R_mono HO196.out (fun _ hk => ⟨hk.1.2, hk.2⟩)⟩, ⟨by repeat ((with_reducible first | exact HB.out | apply pw_below_drewN))⟩⟩
                  case round =>
                    clear H'
                    try clear c4b0
                    try clear c5b0
                    try clear c11b0
                    try clear c11b1
                    try clear c12b0
                    try clear c12b1
                    try clear c14b0
                    try clear c15b0
                    try clear c17b0
                    try clear c18b0
                    try clear hx183_0
                    try clear hx197_0
                    try clear hx198_0
                    try clear p183
                    try clear p197
                    try clear p198
                    try clear q183
                    try clear q197
                    try clear q198
                    obtain ⟨x7_1, x8_1, x10_1, x13_1, rfl, HA, HK1, HO_7, HO_8, HO_10, HB⟩ := hrel
                    have hl7_1 := (Kd.R_reads' HO_7.out).1
                    rw [hl7_1] at HO_7
                    (try simp only [hl7_1])
                    (try simp only [hl7_1] at HO_8)
                    (try simp only [hl7_1] at HO_10)
                    have hl8_1 := (Kd.R_reads' HO_8.out).1
                    rw [hl8_1] at HO_8
                    (try simp only [hl8_1])
                    (try simp only [hl8_1] at HO_7)
                    (try simp only [hl8_1] at HO_10)
                    have hl10_1 := (Kd.R_reads' HO_10.out).1
                    rw [hl10_1] at HO_10
                    (try simp only [hl10_1])
                    (try simp only [hl10_1] at HO_7)
                    (try simp only [hl10_1] at HO_8)
                    cases gk with
                    | zero => exact absurd HA.out (by simp [nat_long.l0])
                    | succ k1 =>
                      have H := HA.out
                      clear HA
                      simp only [nat_long.l0] at H
                      by_cases c28 : x13_1 ≥ 0
                      · rw [if_pos c28] at H
                        have c28b0 : decide (0 ≤ x13_1) = true := decide_eq_true c28
                        clear c28
                        by_cases c29 : 0 ≤ x13_1
                        · rw [if_pos c29] at H
                          have c29b0 := eq_true c29
                          have c29b1 : decide (0 ≤ x13_1) = true := decide_eq_true c29
                          clear c29
                          by_cases c30 : x13_1 ≤ (wrap64 ((wrap64 (x13_1 + (t191.length : Int))) + 1))
                          · rw [if_pos c30] at H
                            have c30b0 := eq_true c30
                            have c30b1 : decide (x13_1 ≤ (wrap64 ((wrap64 (x13_1 + (t191.length : Int))) + 1))) = true := decide_eq_true c30
                            by_cases c31 : (wrap64 ((wrap64 (x13_1 + (t191.length : Int))) + 1)) ≤ (x7_1.length : Int)
                            · rw [if_pos c31] at H
                              have c31b0 := eq_true c31
                              have c31b1 : decide ((wrap64 ((wrap64 (x13_1 + (t191.length : Int))) + 1)) ≤ (x7_1.length : Int)) = true := decide_eq_true c31
                              obtain ⟨y199, hy199⟩ : ∃ y_ : List Int, y_ = ((x7_1.take ((wrap64 ((wrap64 (x13_1 + (t191.length : Int))) + 1)) : Int).toNat).drop (x13_1 : Int).toNat) := ⟨_, rfl⟩
                              replace H : ((nat_guess.f k1 y199 (IntKind.u64.wrap (rd t191 (ji13))) (IntKind.u64.wrap (rd t191 (ji16)))).bind fun t203 => ((nat_offX.f k1 x7_1 x13_1 (wrap64 ((wrap64 (x13_1 + (t191.length : Int))) + 1)) x8_1 t203).bind fun bt204 => (if bt204.1 = true then ((nat_backX.f k1 bt204.2 x13_1 (wrap64 ((wrap64 (x13_1 + (t191.length : Int))) + 1)) x8_1).bind fun t206 => (if x13_1 < (x10_1.length : Int) then (nat_long.l0 k1 t184 t206 x8_1 (t191.length : Int) (x10_1.set (x13_1 : Int).toNat ((IntKind.u64.wrap (t203 - 1)) % 4294967296)) (IntKind.u64.wrap (rd t191 (ji13))) (IntKind.u64.wrap (rd t191 (ji16))) (wrap64 (x13_1 - 1))) else (none))) else (if x13_1 < (x10_1.length : Int) then (nat_long.l0 k1 t184 bt204.2 x8_1 (t191.length : Int) (x10_1.set (x13_1 : Int).toNat ((t203) % 4294967296)) (IntKind.u64.wrap (rd t191 (ji13))) (IntKind.u64.wrap (rd t191 (ji16))) (wrap64 (x13_1 - 1))) else (none))))) = some (r1, r2) := by (rw [hy199]; with_reducible exact H)
                              have Ny199 := Aside0.mk hy199
                              clear hy199
                              obtain ⟨t203, A32, H⟩ := bindE H
                              obtain ⟨⟨t204, t205⟩, A33, H⟩ := bindE H
                              replace H : (if t204 = true then ((nat_backX.f k1 t205 x13_1 (wrap64 ((wrap64 (x13_1 + (t191.length : Int))) + 1)) x8_1).bind fun t206 => (if x13_1 < (x10_1.length : Int) then (nat_long.l0 k1 t184 t206 x8_1 (t191.length : Int) (x10_1.set (x13_1 : Int).toNat ((IntKind.u64.wrap (t203 - 1)) % 4294967296)) (IntKind.u64.wrap (rd t191 (ji13))) (IntKind.u64.wrap (rd t191 (ji16))) (wrap64 (x13_1 - 1))) else (none))) else (if x13_1 < (x10_1.length : Int) then (nat_long.l0 k1 t184 t205 x8_1 (t191.length : Int) (x10_1.set (x13_1 : Int).toNat ((t203) % 4294967296)) (IntKind.u64.wrap (rd t191 (ji13))) (IntKind.u64.wrap (rd t191 (ji16))) (wrap64 (x13_1 - 1))) else (none))) = some (r1, r2) := H
                              by_cases c34 : t204 = true
                              · subst c34
                                rw [if_pos rfl] at H
                                obtain ⟨t206, A35, H⟩ := bindE H
                                by_cases c36 : x13_1 < (x10_1.length : Int)
                                · rw [if_pos c36] at H
                                  have c36b0 : decide (x13_1 < (x10_1.length : Int)) = true := decide_eq_true c36
                                  clear c36
                                  obtain ⟨y207, hy207⟩ : ∃ y_ : List Int, y_ = (x10_1.set (x13_1 : Int).toNat ((IntKind.u64.wrap (t203 - 1)) % 4294967296)) := ⟨_, rfl⟩
                                  replace H : (nat_long.l0 k1 t184 t206 x8_1 (t191.length : Int) y207 (IntKind.u64.wrap (rd t191 (ji13))) (IntKind.u64.wrap (rd t191 (ji16))) (wrap64 (x13_1 - 1))) = some (r1, r2) := by (rw [hy207]; with_reducible exact H)
                                  have Ny207 := Aside0.mk hy207
                                  clear hy207
                                  have H' := Aside0.mk H
                                  clear H
                                  have q38 : ((wrap64 ((wrap64 (x13_1 + (t191.length : Int))) + 1)) : Int) ≤ ((x7_1.length : Int) : Int) := of_decide_eq_true (by (with_reducible assumption))
                                  obtain ⟨i038, hi038, _, hsz38, _⟩ := info_parts info53
                                  have hroom38 : x7_1.length ≤ co24 := (Kd.R_reads' HO_7.out).2.1
                                  have hC38 : Kd.C (Kd.int .u32) _ Ao24 x7_1.length x7_1 := (Kd.R_reads' HO_7.out).2.2
                                  have ql38 : (x13_1 : Int) ≤ ((wrap64 ((wrap64 (x13_1 + (t191.length : Int))) + 1)) : Int) := of_decide_eq_true (by (with_reducible assumption))
                                  have q038 : (0 : Int) ≤ (x13_1 : Int) := of_decide_eq_true (by (with_reducible assumption))
                                  have hcut38 := cut_mid (P := Try.prog) 36 53 .i64 .i64 Try.underlying36 hi038 1 hsz38 Ao24 x7_1.length co24 x13_1 (wrap64 ((wrap64 (x13_1 + (t191.length : Int))) + 1)) q038 ql38 q38 hroom38
                                  have hr38 := Kd.C_mid (lo := (x13_1 : Int).toNat) (hi := ((wrap64 ((wrap64 (x13_1 + (t191.length : Int))) + 1)) : Int).toNat) (c := co24) hC38 (by omega) (by omega) hroom38
                                  obtain ⟨A38, hA38⟩ : ∃ A1, A1 = (if co24 = (x13_1 : Int).toNat then Ao24 else (Ao24 : Option Addr).map (·.add ((x13_1 : Int).toNat * 1))) := ⟨_, rfl⟩
                                  obtain ⟨c38, hc38⟩ : ∃ c1, c1 = co24 - (x13_1 : Int).toNat := ⟨_, rfl⟩
                                  have hy38 : y199.length = ((wrap64 ((wrap64 (x13_1 + (t191.length : Int))) + 1)) : Int).toNat - (x13_1 : Int).toNat := (by rw [Ny199.out, List.length_drop, List.length_take] <;> omega)
                                  rw [show ((x7_1).take ((wrap64 ((wrap64 (x13_1 + (t191.length : Int))) + 1)) : Int).toNat).drop (x13_1 : Int).toNat = y199 from Ny199.out.symm] at hr38
                                  replace hr38 : Kd.C (Kd.int .u32) _ A38 y199.length y199 := (by rw [hA38]; exact hr38)
                                  rw [← hy38, ← hA38, ← hc38] at hcut38
                                  have HR202 := Aside0.mk hr38
                                  have HC202 := Aside0.mk (show y199.length ≤ c38 from by rw [hy38, hc38]; exact Nat.sub_le_sub_right (Nat.le_trans (by omega) hroom38) _)
                                  clear hr38 hC38 hroom38 hi038 hsz38 hc38
                                  have KY38 := Aside0.mk hy38
                                  have KA38 := Aside0.mk hA38
                                  clear hy38 hA38
                                  (try simp only [hl8_1] at hcut38)
                                  have KL38 := Aside0.mk (show ((wrap64 ((wrap64 (x13_1 + (t191.length : Int))) + 1)) : Int).toNat ≤ x7_1.length from by omega)
                                  have KM38 := Aside0.mk (show (x13_1 : Int).toNat ≤ ((wrap64 ((wrap64 (x13_1 + (t191.length : Int))) + 1)) : Int).toNat from by omega)
                                  replace q38 := eq_true q38
                                  go_wp2_with (first | (go_at_call 81; (with_reducible refine (nat_guess.calls k1 _ _ y199 (IntKind.u64.wrap (rd t191 (ji13))) (IntKind.u64.wrap (rd t191 (ji16))) t203 _ ?side1 ?side2 A32.out).mono ?_); (case side1 => repeat (exact (by with_reducible exact HR202.out))); (case side2 => exact HC202.out); rintro e w' ⟨rfl, ⟨nd, rfl⟩⟩) | (go_at_call 82; (with_reducible refine (nat_offX.calls k1 (fun k_ => some k_ = (.slice Ao24 x7_1.length co24 : Value).ownBlock) (.slice Ao24 x7_1.length co24) x7_1 x13_1 (wrap64 ((wrap64 (x13_1 + (t191.length : Int))) + 1)) _ _ x8_1 t203 true t205 w _ ?side1 ?side2 ?side3 ?side4 ?side5 ?side6 ?side7 rfl A33.out).mono ?_); (case side1 => repeat ((with_reducible first | exact HB.out | apply pw_below_drewN))); (case side2 => exact Kd.R_tight rfl HO_7.out); (case side3 => exact KA38.out); (case side4 => exact KY38.out); (case side5 => exact HC202.out); (case side6 => exact Kd.C_kept_own (HO_8.out) (fun k_ hk_ hs_ => (hk_.1) hs_)); (case side7 => exact (Kd.R_reads' HO_8.out).2.1); rintro e w39 ⟨rfl, hy0, hb, hkp⟩; have n0_ := Aside0.mk (Kd.R_reok rfl hy0 (fun k_ e_ => HO_7.out.1 k_ e_)); have n1_ := Aside0.mk (Kd.R_mono (ok' := fun k_ => some k_ ≠ (.slice Ao24 x7_1.length co24 : Value).ownBlock ∧ some k_ ≠ (.slice Ao27 x10_1.length co27 : Value).ownBlock) (Kd.R_keptB (HO_8.out) hkp (fun k_ hk_ hs_ => (hk_.1) hs_)) (fun k_ hk_ => ⟨hk_.1.1, hk_.1.2⟩)); have n2_ := Aside0.mk (Kd.R_mono (ok' := fun k_ => some k_ ≠ (.slice Ao24 x7_1.length co24 : Value).ownBlock ∧ some k_ ≠ (.slice (some ad197) x8_1.length co23 : Value).ownBlock) (Kd.R_keptB (HO_10.out) hkp (fun k_ hk_ hs_ => (hk_.1) hs_)) (fun k_ hk_ => ⟨hk_.1.1, hk_.1.2⟩)); have n3_ := Aside0.mk (hb); clear HO_7; clear HO_8; clear HO_10; clear HB; have HO_7 := n0_; have HO_8 := n1_; have HO_10 := n2_; have HB := n3_; clear n0_ n1_ n2_ n3_; (try clear hb); (try clear hkp); (try clear hy0)) | (go_at_call 83; (with_reducible refine (nat_backX.calls k1 (fun k_ => some k_ = (.slice Ao24 x7_1.length co24 : Value).ownBlock) (.slice Ao24 x7_1.length co24) t205 x13_1 (wrap64 ((wrap64 (x13_1 + (t191.length : Int))) + 1)) _ _ x8_1 t206 w _ ?side1 ?side2 ?side3 ?side4 ?side5 ?side6 ?side7 rfl A35.out).mono ?_); (case side1 => repeat ((with_reducible exact HB.out))); (case side2 => exact Kd.R_tight rfl HO_7.out); (case side3 => exact KA38.out); (case side4 => exact KY38.out); (case side5 => exact HC202.out); (case side6 => exact Kd.C_kept_own (HO_8.out) (fun k_ hk_ hs_ => (hk_.1) hs_)); (case side7 => exact (Kd.R_reads' HO_8.out).2.1); rintro e w40 ⟨rfl, hy0, hb, hkp⟩; have n0_ := Aside0.mk (Kd.R_reok rfl hy0 (fun k_ e_ => HO_7.out.1 k_ e_)); have n1_ := Aside0.mk (Kd.R_mono (ok' := fun k_ => some k_ ≠ (.slice Ao24 x7_1.length co24 : Value).ownBlock ∧ some k_ ≠ (.slice Ao27 x10_1.length co27 : Value).ownBlock) (Kd.R_keptB (HO_8.out) hkp (fun k_ hk_ hs_ => (hk_.1) hs_)) (fun k_ hk_ => ⟨hk_.1.1, hk_.1.2⟩)); have n2_ := Aside0.mk (Kd.R_mono (ok' := fun k_ => some k_ ≠ (.slice Ao24 x7_1.length co24 : Value).ownBlock ∧ some k_ ≠ (.slice (some ad197) x8_1.length co23 : Value).ownBlock) (Kd.R_keptB (HO_10.out) hkp (fun k_ hk_ hs_ => (hk_.1) hs_)) (fun k_ hk_ => ⟨hk_.1.1, hk_.1.2⟩)); have n3_ := Aside0.mk (hb); clear HO_7; clear HO_8; clear HO_10; clear HB; have HO_7 := n0_; have HO_8 := n1_; have HO_10 := n2_; have HB := n3_; clear n0_ n1_ n2_ n3_; (try clear hb); (try clear hkp); (try clear hy0); have p37 : 0 ≤ (x13_1 : Int) := of_decide_eq_true (by (with_reducible assumption)); have q37 : (x13_1 : Int) < ((x10_1.length : Int) : Int) := of_decide_eq_true (by (with_reducible assumption)); obtain ⟨go37, co37, eo37, gb37, gl37, cl37, HG37⟩ := Kd.R_form HO_10.out (by omega); (cases eo37); have GB37 := Aside0.mk gb37; have GG37 := Aside0.mk HG37; clear gb37 gl37 HG37; obtain ⟨hx37_0, hf37_0⟩ := Kd.R_celln 0 HO_10.out (x13_1 : Int) p37 q37; replace p37 := eq_true p37; replace q37 := eq_true q37; obtain ⟨hy41_, hz41_⟩ := Kd.R_celln 0 HO_10.out (x13_1 : Int) (of_decide_eq_true (by (with_reducible assumption))) (of_decide_eq_true (by (with_reducible assumption))); have HP41 := Kd.R_putg HO_10.out (x13_1 : Int) ((IntKind.u64.wrap (t203 - 1)) % 4294967296)) | ((with_reducible refine gate_store (t := 53) (p := 83) rfl ?_); refine store_event (t := 53) (p := 83) (v := ?vo_w42) (w1 := (w40.setCell ⟨go37, (x13_1 : Int).toNat, none⟩ (.int .u32 ((IntKind.u64.wrap (t203 - 1)) % 4294967296)))) ?hg ?ho ?hn ?hr ?_; (case ho => rfl); (case hg => rfl); (case hn => rfl); (case hr => (go_simp; done)); intro w42 hw; have hg : w40.grownBy w42 (some go37) := (by rw [hw]; exact HP41.2); have hp_ : Kd.R (Kd.int .u32) 53 w42 w.heap.size (fun k_ => some k_ ≠ (.slice Ao24 x7_1.length co24 : Value).ownBlock ∧ some k_ ≠ (.slice (some ad197) x8_1.length co23 : Value).ownBlock) (.slice (some ⟨go37, 0, none⟩) x10_1.length co27) y207 := (by rw [hw, Ny207.out]; exact HP41.1); clear HP41; have n0_ := Aside0.mk (Kd.R_after (v := (.slice (some ⟨go37, 0, none⟩) x10_1.length co27)) (v1 := (.slice (some ⟨go37, 0, none⟩) x10_1.length co27)) (ok := (fun k_ => some k_ ≠ (.slice (some ad197) x8_1.length co23 : Value).ownBlock)) (by exact HO_7.out) hg (.inl rfl)); have n1_ := Aside0.mk (Kd.R_after (v := (.slice (some ⟨go37, 0, none⟩) x10_1.length co27)) (v1 := (.slice (some ⟨go37, 0, none⟩) x10_1.length co27)) (ok := (fun k_ => some k_ ≠ (.slice Ao24 x7_1.length co24 : Value).ownBlock)) (by exact HO_8.out) hg (.inl rfl)); have n2_ := Aside0.mk (hp_); have n3_ := Aside0.mk ((by rw [hw]; exact below_set (HB.out) GB37.out : Below w.heap.size w w42)); clear HO_7; clear HO_8; clear HO_10; clear HB; have HO_7 := n0_; have HO_8 := n1_; have HO_10 := n2_; have HB := n3_; clear n0_ n1_ n2_ n3_; clear hg hw hp_))
                                  repeat (go_quiet (fail); try go_wp2_with (fail))
                                  (try simp only [← hl7_1, ← hl8_1, ← hl10_1])
                                  go_roundg k1
                                  case measure => have := HK1.out; omega
                                  case rel => exact ⟨(t206), (x8_1), (y207), (wrap64 (x13_1 - 1)), (by rfl), H', ⟨by have := HK1.out; omega⟩, ⟨by (try simp only [hl7_1]); (try simp only [hl8_1]); (try simp only [hl10_1]); exact HO_7.out⟩, ⟨by (try simp only [hl7_1]); (try simp only [hl8_1]); (try simp only [hl10_1]); exact HO_8.out⟩, ⟨by (try simp only [hl7_1]); (try simp only [hl8_1]); (try simp only [hl10_1]); exact HO_10.out⟩, ⟨by with_reducible exact HB.out⟩⟩
                                · rw [if_neg c36] at H
                                  exact absurd H (by simp)
                              · replace c34 := Bool.eq_false_iff.mpr c34
                                subst c34
                                rw [if_neg (show ¬ (false = true) by decide)] at H
                                by_cases c43 : x13_1 < (x10_1.length : Int)
                                · rw [if_pos c43] at H
                                  have c43b0 : decide (x13_1 < (x10_1.length : Int)) = true := decide_eq_true c43
                                  clear c43
                                  obtain ⟨y208, hy208⟩ : ∃ y_ : List Int, y_ = (x10_1.set (x13_1 : Int).toNat ((t203) % 4294967296)) := ⟨_, rfl⟩
                                  replace H : (nat_long.l0 k1 t184 t205 x8_1 (t191.length : Int) y208 (IntKind.u64.wrap (rd t191 (ji13))) (IntKind.u64.wrap (rd t191 (ji16))) (wrap64 (x13_1 - 1))) = some (r1, r2) := by (rw [hy208]; with_reducible exact H)
                                  have Ny208 := Aside0.mk hy208
                                  clear hy208
                                  have H' := Aside0.mk H
                                  clear H
                                  have q45 : ((wrap64 ((wrap64 (x13_1 + (t191.length : Int))) + 1)) : Int) ≤ ((x7_1.length : Int) : Int) := of_decide_eq_true (by (with_reducible assumption))
                                  obtain ⟨i045, hi045, _, hsz45, _⟩ := info_parts info53
                                  have hroom45 : x7_1.length ≤ co24 := (Kd.R_reads' HO_7.out).2.1
                                  have hC45 : Kd.C (Kd.int .u32) _ Ao24 x7_1.length x7_1 := (Kd.R_reads' HO_7.out).2.2
                                  have ql45 : (x13_1 : Int) ≤ ((wrap64 ((wrap64 (x13_1 + (t191.length : Int))) + 1)) : Int) := of_decide_eq_true (by (with_reducible assumption))
                                  have q045 : (0 : Int) ≤ (x13_1 : Int) := of_decide_eq_true (by (with_reducible assumption))
                                  have hcut45 := cut_mid (P := Try.prog) 36 53 .i64 .i64 Try.underlying36 hi045 1 hsz45 Ao24 x7_1.length co24 x13_1 (wrap64 ((wrap64 (x13_1 + (t191.length : Int))) + 1)) q045 ql45 q45 hroom45
                                  have hr45 := Kd.C_mid (lo := (x13_1 : Int).toNat) (hi := ((wrap64 ((wrap64 (x13_1 + (t191.length : Int))) + 1)) : Int).toNat) (c := co24) hC45 (by omega) (by omega) hroom45
                                  obtain ⟨A45, hA45⟩ : ∃ A1, A1 = (if co24 = (x13_1 : Int).toNat then Ao24 else (Ao24 : Option Addr).map (·.add ((x13_1 : Int).toNat * 1))) := ⟨_, rfl⟩
                                  obtain ⟨c45, hc45⟩ : ∃ c1, c1 = co24 - (x13_1 : Int).toNat := ⟨_, rfl⟩
                                  have hy45 : y199.length = ((wrap64 ((wrap64 (x13_1 + (t191.length : Int))) + 1)) : Int).toNat - (x13_1 : Int).toNat := (by rw [Ny199.out, List.length_drop, List.length_take] <;> omega)
                                  rw [show ((x7_1).take ((wrap64 ((wrap64 (x13_1 + (t191.length : Int))) + 1)) : Int).toNat).drop (x13_1 : Int).toNat = y199 from Ny199.out.symm] at hr45
                                  replace hr45 : Kd.C (Kd.int .u32) _ A45 y199.length y199 := (by rw [hA45]; exact hr45)
                                  rw [← hy45, ← hA45, ← hc45] at hcut45
                                  have HR202 := Aside0.mk hr45
                                  have HC202 := Aside0.mk (show y199.length ≤ c45 from by rw [hy45, hc45]; exact Nat.sub_le_sub_right (Nat.le_trans (by omega) hroom45) _)
                                  clear hr45 hC45 hroom45 hi045 hsz45 hc45
                                  have KY45 := Aside0.mk hy45
                                  have KA45 := Aside0.mk hA45
                                  clear hy45 hA45
                                  (try simp only [hl8_1] at hcut45)
                                  have KL45 := Aside0.mk (show ((wrap64 ((wrap64 (x13_1 + (t191.length : Int))) + 1)) : Int).toNat ≤ x7_1.length from by omega)
                                  have KM45 := Aside0.mk (show (x13_1 : Int).toNat ≤ ((wrap64 ((wrap64 (x13_1 + (t191.length : Int))) + 1)) : Int).toNat from by omega)
                                  replace q45 := eq_true q45
                                  go_wp2_with (first | (go_at_call 81; (with_reducible refine (nat_guess.calls k1 _ _ y199 (IntKind.u64.wrap (rd t191 (ji13))) (IntKind.u64.wrap (rd t191 (ji16))) t203 _ ?side1 ?side2 A32.out).mono ?_); (case side1 => repeat (exact (by with_reducible exact HR202.out))); (case side2 => exact HC202.out); rintro e w' ⟨rfl, ⟨nd, rfl⟩⟩) | (go_at_call 82; (with_reducible refine (nat_offX.calls k1 (fun k_ => some k_ = (.slice Ao24 x7_1.length co24 : Value).ownBlock) (.slice Ao24 x7_1.length co24) x7_1 x13_1 (wrap64 ((wrap64 (x13_1 + (t191.length : Int))) + 1)) _ _ x8_1 t203 false t205 w _ ?side1 ?side2 ?side3 ?side4 ?side5 ?side6 ?side7 rfl A33.out).mono ?_); (case side1 => repeat ((with_reducible first | exact HB.out | apply pw_below_drewN))); (case side2 => exact Kd.R_tight rfl HO_7.out); (case side3 => exact KA45.out); (case side4 => exact KY45.out); (case side5 => exact HC202.out); (case side6 => exact Kd.C_kept_own (HO_8.out) (fun k_ hk_ hs_ => (hk_.1) hs_)); (case side7 => exact (Kd.R_reads' HO_8.out).2.1); rintro e w46 ⟨rfl, hy0, hb, hkp⟩; have n0_ := Aside0.mk (Kd.R_reok rfl hy0 (fun k_ e_ => HO_7.out.1 k_ e_)); have n1_ := Aside0.mk (Kd.R_mono (ok' := fun k_ => some k_ ≠ (.slice Ao24 x7_1.length co24 : Value).ownBlock ∧ some k_ ≠ (.slice Ao27 x10_1.length co27 : Value).ownBlock) (Kd.R_keptB (HO_8.out) hkp (fun k_ hk_ hs_ => (hk_.1) hs_)) (fun k_ hk_ => ⟨hk_.1.1, hk_.1.2⟩)); have n2_ := Aside0.mk (Kd.R_mono (ok' := fun k_ => some k_ ≠ (.slice Ao24 x7_1.length co24 : Value).ownBlock ∧ some k_ ≠ (.slice (some ad197) x8_1.length co23 : Value).ownBlock) (Kd.R_keptB (HO_10.out) hkp (fun k_ hk_ hs_ => (hk_.1) hs_)) (fun k_ hk_ => ⟨hk_.1.1, hk_.1.2⟩)); have n3_ := Aside0.mk (hb); clear HO_7; clear HO_8; clear HO_10; clear HB; have HO_7 := n0_; have HO_8 := n1_; have HO_10 := n2_; have HB := n3_; clear n0_ n1_ n2_ n3_; (try clear hb); (try clear hkp); (try clear hy0); have p44 : 0 ≤ (x13_1 : Int) := of_decide_eq_true (by (with_reducible assumption)); have q44 : (x13_1 : Int) < ((x10_1.length : Int) : Int) := of_decide_eq_true (by (with_reducible assumption)); obtain ⟨go44, co44, eo44, gb44, gl44, cl44, HG44⟩ := Kd.R_form HO_10.out (by omega); (cases eo44); have GB44 := Aside0.mk gb44; have GG44 := Aside0.mk HG44; clear gb44 gl44 HG44; obtain ⟨hx44_0, hf44_0⟩ := Kd.R_celln 0 HO_10.out (x13_1 : Int) p44 q44; replace p44 := eq_true p44; replace q44 := eq_true q44; obtain ⟨hy47_, hz47_⟩ := Kd.R_celln 0 HO_10.out (x13_1 : Int) (of_decide_eq_true (by (with_reducible assumption))) (of_decide_eq_true (by (with_reducible assumption))); have HP47 := Kd.R_putg HO_10.out (x13_1 : Int) ((t203) % 4294967296)) | ((with_reducible refine gate_store (t := 53) (p := 83) rfl ?_); refine store_event (t := 53) (p := 83) (v := ?vo_w48) (w1 := (w46.setCell ⟨go44, (x13_1 : Int).toNat, none⟩ (.int .u32 ((t203) % 4294967296)))) ?hg ?ho ?hn ?hr ?_; (case ho => rfl); (case hg => rfl); (case hn => rfl); (case hr => (go_simp; done)); intro w48 hw; have hg : w46.grownBy w48 (some go44) := (by rw [hw]; exact HP47.2); have hp_ : Kd.R (Kd.int .u32) 53 w48 w.heap.size (fun k_ => some k_ ≠ (.slice Ao24 x7_1.length co24 : Value).ownBlock ∧ some k_ ≠ (.slice (some ad197) x8_1.length co23 : Value).ownBlock) (.slice (some ⟨go44, 0, none⟩) x10_1.length co27) y208 := (by rw [hw, Ny208.out]; exact HP47.1); clear HP47; have n0_ := Aside0.mk (Kd.R_after (v := (.slice (some ⟨go44, 0, none⟩) x10_1.length co27)) (v1 := (.slice (some ⟨go44, 0, none⟩) x10_1.length co27)) (ok := (fun k_ => some k_ ≠ (.slice (some ad197) x8_1.length co23 : Value).ownBlock)) (by exact HO_7.out) hg (.inl rfl)); have n1_ := Aside0.mk (Kd.R_after (v := (.slice (some ⟨go44, 0, none⟩) x10_1.length co27)) (v1 := (.slice (some ⟨go44, 0, none⟩) x10_1.length co27)) (ok := (fun k_ => some k_ ≠ (.slice Ao24 x7_1.length co24 : Value).ownBlock)) (by exact HO_8.out) hg (.inl rfl)); have n2_ := Aside0.mk (hp_); have n3_ := Aside0.mk ((by rw [hw]; exact below_set (HB.out) GB44.out : Below w.heap.size w w48)); clear HO_7; clear HO_8; clear HO_10; clear HB; have HO_7 := n0_; have HO_8 := n1_; have HO_10 := n2_; have HB := n3_; clear n0_ n1_ n2_ n3_; clear hg hw hp_))
                                  repeat (go_quiet (fail); try go_wp2_with (fail))
                                  (try simp only [← hl7_1, ← hl8_1, ← hl10_1])
                                  go_roundg k1
                                  case measure => have := HK1.out; omega
                                  case rel => exact ⟨(t205), (x8_1), (y208), (wrap64 (x13_1 - 1)), (by rfl), H', ⟨by have := HK1.out; omega⟩, ⟨by (try simp only [hl7_1]); (try simp only [hl8_1]); (try simp only [hl10_1]); exact HO_7.out⟩, ⟨by (try simp only [hl7_1]); (try simp only [hl8_1]); (try simp only [hl10_1]); exact HO_8.out⟩, ⟨by (try simp only [hl7_1]); (try simp only [hl8_1]); (try simp only [hl10_1]); exact HO_10.out⟩, ⟨by with_reducible exact HB.out⟩⟩
                                · rw [if_neg c43] at H
                                  exact absurd H (by simp)
                            · rw [if_neg c31] at H
                              exact absurd H (by simp)
                          · rw [if_neg c30] at H
                            exact absurd H (by simp)
                        · rw [if_neg c29] at H
                          exact absurd H (by simp)
                      · rw [if_neg c28] at H
                        have c28b0 : decide (0 ≤ x13_1) = false := decide_eq_false c28
                        clear c28
                        obtain ⟨t209, A49, H⟩ := bindE H
                        have H' := Aside0.mk H
                        clear H
                        go_wp2_with ((go_at_call 56; (with_reducible refine (nat_trim_own.calls k1 (fun k_ => some k_ = (.slice Ao24 x7_1.length co24 : Value).ownBlock) (.slice Ao24 x7_1.length co24) x7_1 t209 w _ ?side1 ?side2 A49.out).mono ?_); (case side1 => repeat ((with_reducible exact HB.out))); (case side2 => exact Kd.R_tight rfl HO_7.out); rintro e w50 ⟨v210, rfl, ho0, hb, hkp⟩; have n0_ := Aside0.mk (Kd.R_mono (ok' := fun k_ => some k_ ≠ (.slice Ao27 x10_1.length co27 : Value).ownBlock ∧ some k_ ≠ (v210 : Value).ownBlock) (Kd.R_keptB (HO_8.out) hkp (fun k_ hk_ hs_ => (hk_.1) hs_)) (fun k_ hk_ => ⟨hk_.1.2, fun e_ => Or.elim (ho0.1 k_ e_.symm) (fun hs_ => hk_.2.1 hs_) (fun hn_ => Nat.not_le.2 hk_.2.2 hn_)⟩)); have n1_ := Aside0.mk (Kd.R_mono (ok' := fun k_ => some k_ ≠ (.slice (some ad197) x8_1.length co23 : Value).ownBlock ∧ some k_ ≠ (v210 : Value).ownBlock) (Kd.R_keptB (HO_10.out) hkp (fun k_ hk_ hs_ => (hk_.1) hs_)) (fun k_ hk_ => ⟨hk_.1.2, fun e_ => Or.elim (ho0.1 k_ e_.symm) (fun hs_ => hk_.2.1 hs_) (fun hn_ => Nat.not_le.2 hk_.2.2 hn_)⟩)); have n2_ := Aside0.mk (Kd.R_mono (ok' := fun k_ => some k_ ≠ (.slice (some ad197) x8_1.length co23 : Value).ownBlock ∧ some k_ ≠ (.slice Ao27 x10_1.length co27 : Value).ownBlock) ho0 (fun k_ hk_ => ⟨Or.elim hk_ (fun hs_ => fun e_ => (((HO_8.out).1 k_ e_.symm).1) hs_) (fun hn_ => (Kd.fresh' (Kd.R_lt (by exact HO_8.out)) k_ hn_)), Or.elim hk_ (fun hs_ => fun e_ => (((HO_10.out).1 k_ e_.symm).1) hs_) (fun hn_ => (Kd.fresh' (Kd.R_lt (by exact HO_10.out)) k_ hn_))⟩)); have n3_ := Aside0.mk (hb); clear HO_8; clear HO_10; clear HB; clear HO_7; have HO_8 := n0_; have HO_10 := n1_; have HO211 := n2_; have HB := n3_; clear n0_ n1_ n2_ n3_; (try clear hb); (try clear hkp); (try clear ho0); obtain ⟨Ao51, co51, eo51⟩ := Kd.R_slice HO211.out; subst eo51))
                        repeat (go_quiet (fail); try go_wp2_with (fail))
                        go_loopg [17, 18] k1 (fun kq v17 v18 w' => ∃ (x16_2 : List Int) (x17_2 : Int) (x18_2 : Int), v17 = .int .u64 x17_2 ∧ v18 = .int .i64 x18_2 ∧ Aside0 (nat_long.l1 kq t184 x10_1 x16_2 x17_2 x18_2 = some (r1, r2)) ∧ Aside0 (kq ≤ k1) ∧ Aside0 (Kd.R (Kd.int .u32) 53 w' w.heap.size (fun k_ => some k_ ≠ ((.slice Ao51 t209.length co51) : Value).ownBlock) (.slice Ao27 x10_1.length co27) x10_1) ∧ Aside0 (Kd.R (Kd.int .u32) 53 w' w.heap.size (fun k_ => some k_ ≠ ((.slice Ao27 x10_1.length co27) : Value).ownBlock) (.slice Ao51 t209.length co51) x16_2) ∧ Aside0 (Below w.heap.size w w'))
                        case atStart => exact ⟨(t209), (0), (wrap64 ((t209.length : Int) - 1)), (by rfl), (by rfl), H', ⟨Nat.le_refl _⟩, ⟨by exact Kd.R_mono HO_10.out (fun _ hk => hk.2)⟩, ⟨by exact Kd.R_mono HO211.out (fun _ hk => hk.2)⟩, ⟨by with_reducible exact HB.out⟩⟩
                        case round =>
                          clear H'
                          try clear c28b0
                          obtain ⟨x16_2, x17_2, x18_2, rfl, rfl, HA, HK2, HO_10, HO_16, HB⟩ := hrel
                          have hl16_2 := (Kd.R_reads' HO_16.out).1
                          rw [hl16_2] at HO_16
                          (try simp only [hl16_2])
                          (try simp only [hl16_2] at HO_10)
                          cases gk with
                          | zero => exact absurd HA.out (by simp [nat_long.l1])
                          | succ k2 =>
                            have H := HA.out
                            clear HA
                            simp only [nat_long.l1] at H
                            by_cases c52 : x18_2 ≥ 0
                            · rw [if_pos c52] at H
                              have c52b0 : decide (0 ≤ x18_2) = true := decide_eq_true c52
                              clear c52
                              by_cases c53 : 0 ≤ x18_2
                              · rw [if_pos c53] at H
                                have c53b0 : decide (0 ≤ x18_2) = true := decide_eq_true c53
                                clear c53
                                by_cases c54 : x18_2 < (x16_2.length : Int)
                                · rw [if_pos c54] at H
                                  have c54b0 : decide (x18_2 < (x16_2.length : Int)) = true := decide_eq_true c54
                                  clear c54
                                  by_cases c55 : 0 ≤ t184
                                  · rw [if_pos c55] at H
                                    have c55b0 := eq_true c55
                                    have c55b1 : decide (0 ≤ t184) = true := decide_eq_true c55
                                    clear c55
                                    obtain ⟨ji56, hji56⟩ : ∃ j_ : Int, (shr .u64 (Go.bits .or .u64 (IntKind.u64.wrap (x17_2 * 4294967296)) (IntKind.u64.wrap (rd x16_2 x18_2))) t184) = j_ := ⟨_, rfl⟩
                                    replace H : (nat_long.l1 k2 t184 x10_1 (x16_2.set (x18_2 : Int).toNat ((ji56) % 4294967296)) (Go.bits .or .u64 (IntKind.u64.wrap (x17_2 * 4294967296)) (IntKind.u64.wrap (rd x16_2 x18_2))) (wrap64 (x18_2 - 1))) = some (r1, r2) := by (rw [hji56] at H; exact H)
                                    have hji56_ : ((Go.bits .or .u64 (IntKind.u64.wrap (x17_2 * 4294967296)) (IntKind.u64.wrap (rd x16_2 x18_2))) / 2 ^ min t184.toNat 64) = ji56 := hji56
                                    have hji56z : t184 ≤ 64 → ((Go.bits .or .u64 (IntKind.u64.wrap (x17_2 * 4294967296)) (IntKind.u64.wrap (rd x16_2 x18_2))) / 2 ^ t184.toNat) = ji56 := shr_small hji56
                                    obtain ⟨y213, hy213⟩ : ∃ y_ : List Int, y_ = (x16_2.set (x18_2 : Int).toNat ((ji56) % 4294967296)) := ⟨_, rfl⟩
                                    replace H : (nat_long.l1 k2 t184 x10_1 y213 (Go.bits .or .u64 (IntKind.u64.wrap (x17_2 * 4294967296)) (IntKind.u64.wrap (rd x16_2 x18_2))) (wrap64 (x18_2 - 1))) = some (r1, r2) := by (rw [hy213]; with_reducible exact H)
                                    have Ny213 := Aside0.mk hy213
                                    clear hy213
                                    have H' := Aside0.mk H
                                    clear H
                                    have p212 : 0 ≤ (x18_2 : Int) := of_decide_eq_true (by (with_reducible assumption))
                                    have q212 : x18_2 < (x16_2.length : Int) := of_decide_eq_true (by (with_reducible assumption))
                                    obtain ⟨ad212, e212, hx212_0⟩ := Kd.at_int (Kd.R_reads' HO_16.out).2.2 x18_2 p212 q212
                                    cases e212
                                    replace p212 := eq_true p212
                                    replace q212 := eq_true q212
                                    have p57 : 0 ≤ (x18_2 : Int) := of_decide_eq_true (by (with_reducible assumption))
                                    have q57 : (x18_2 : Int) < ((x16_2.length : Int) : Int) := of_decide_eq_true (by (with_reducible assumption))
                                    obtain ⟨go57, co57, eo57, gb57, gl57, cl57, HG57⟩ := Kd.R_form HO_16.out (by omega)
                                    (cases eo57)
                                    have GB57 := Aside0.mk gb57
                                    have GG57 := Aside0.mk HG57
                                    clear gb57 gl57 HG57
                                    (simp only [add_plain] at hx212_0)
                                    obtain ⟨hx57_0, hf57_0⟩ := Kd.R_celln 0 HO_16.out (x18_2 : Int) p57 q57
                                    replace p57 := eq_true p57
                                    replace q57 := eq_true q57
                                    have HP58 := Kd.R_putg HO_16.out (x18_2 : Int) ((ji56) % 4294967296)
                                    go_wp2_with (((with_reducible refine gate_store (t := 53) (p := 107) rfl ?_); refine store_event (t := 53) (p := 107) (v := ?vo_w59) (w1 := (wr.setCell ⟨go57, (x18_2 : Int).toNat, none⟩ (.int .u32 ((ji56) % 4294967296)))) ?hg ?ho ?hn ?hr ?_; (case ho => rfl); (case hg => rfl); (case hn => rfl); (case hr => (go_simp; done)); intro w59 hw; have hg : wr.grownBy w59 (some go57) := (by rw [hw]; exact HP58.2); have hp_ : Kd.R (Kd.int .u32) 53 w59 w.heap.size (fun k_ => some k_ ≠ (.slice Ao27 x10_1.length co27 : Value).ownBlock) (.slice (some ⟨go57, 0, none⟩) x16_2.length co51) y213 := (by rw [hw, Ny213.out]; exact HP58.1); clear HP58; have n0_ := Aside0.mk (Kd.R_after (v := (.slice (some ⟨go57, 0, none⟩) x16_2.length co51)) (v1 := (.slice (some ⟨go57, 0, none⟩) x16_2.length co51)) (ok := (fun _ => True)) (by exact Kd.R_mono HO_10.out (fun _ hk => ⟨trivial, hk⟩)) hg (.inl rfl)); have n1_ := Aside0.mk (hp_); have n2_ := Aside0.mk ((by rw [hw]; exact below_set (HB.out) GB57.out : Below w.heap.size w w59)); clear HO_10; clear HO_16; clear HB; have HO_10 := n0_; have HO_16 := n1_; have HB := n2_; clear n0_ n1_ n2_; clear hg hw hp_))
                                    repeat (go_quiet (fail); try go_wp2_with (fail))
                                    (try simp only [← hl16_2])
                                    go_roundg k2
                                    case measure => have := HK1.out; have := HK2.out; omega
                                    case rel => exact ⟨(y213), (Go.bits .or .u64 (IntKind.u64.wrap (x17_2 * 4294967296)) (IntKind.u64.wrap (rd x16_2 x18_2))), (wrap64 (x18_2 - 1)), (by rfl), (by rfl), H', ⟨by have := HK1.out; have := HK2.out; omega⟩, ⟨by (try simp only [hl16_2]); exact Kd.R_mono HO_10.out (fun _ hk => hk.2)⟩, ⟨by (try simp only [hl16_2]); exact HO_16.out⟩, ⟨by with_reducible exact HB.out⟩⟩
                                  · rw [if_neg c55] at H
                                    exact absurd H (by simp)
                                · rw [if_neg c54] at H
                                  exact absurd H (by simp)
                              · rw [if_neg c53] at H
                                exact absurd H (by simp)
                            · rw [if_neg c52] at H
                              have c52b0 : decide (0 ≤ x18_2) = false := decide_eq_false c52
                              clear c52
                              obtain ⟨t214, A60, H⟩ := bindE H
                              obtain ⟨t217, A61, H⟩ := bindE H
                              simp only [Option.some.injEq, Prod.mk.injEq] at H
                              obtain ⟨rfl, rfl⟩ := H
                              go_wp2_with (first | (go_at_call 56; (with_reducible refine (nat_trim_own.calls k2 (fun k_ => some k_ = (.slice Ao27 x10_1.length co27 : Value).ownBlock) (.slice Ao27 x10_1.length co27) x10_1 t214 w _ ?side1 ?side2 A60.out).mono ?_); (case side1 => repeat ((with_reducible exact HB.out))); (case side2 => exact Kd.R_tight rfl HO_10.out); rintro e w62 ⟨v215, rfl, ho0, hb, hkp⟩; have n0_ := Aside0.mk (Kd.R_mono (ok' := fun k_ => some k_ ≠ (v215 : Value).ownBlock) (Kd.R_keptB (HO_16.out) hkp (fun k_ hk_ hs_ => (hk_) hs_)) (fun k_ hk_ => fun e_ => Or.elim (ho0.1 k_ e_.symm) (fun hs_ => hk_.2.1 hs_) (fun hn_ => Nat.not_le.2 hk_.2.2 hn_))); have n1_ := Aside0.mk (Kd.R_mono (ok' := fun k_ => some k_ ≠ (.slice Ao51 x16_2.length co51 : Value).ownBlock) ho0 (fun k_ hk_ => Or.elim hk_ (fun hs_ => fun e_ => (((HO_16.out).1 k_ e_.symm)) hs_) (fun hn_ => (Kd.fresh' (Kd.R_lt (by exact HO_16.out)) k_ hn_)))); have n2_ := Aside0.mk (hb); clear HO_16; clear HB; clear HO_10; have HO_16 := n0_; have HO216 := n1_; have HB := n2_; clear n0_ n1_ n2_; (try clear hb); (try clear hkp); (try clear ho0)) | (go_at_call 56; (with_reducible refine (nat_trim_own.calls k2 (fun k_ => some k_ = (.slice Ao51 x16_2.length co51 : Value).ownBlock) (.slice Ao51 x16_2.length co51) x16_2 t217 w _ ?side1 ?side2 A61.out).mono ?_); (case side1 => repeat ((with_reducible exact HB.out))); (case side2 => exact Kd.R_tight rfl HO_16.out); rintro e w63 ⟨v218, rfl, ho0, hb, hkp⟩; have n0_ := Aside0.mk (Kd.R_mono (ok' := fun k_ => some k_ ≠ (v218 : Value).ownBlock) (Kd.R_keptB (HO216.out) hkp (fun k_ hk_ hs_ => (hk_) hs_)) (fun k_ hk_ => fun e_ => Or.elim (ho0.1 k_ e_.symm) (fun hs_ => hk_.2.1 hs_) (fun hn_ => Nat.not_le.2 hk_.2.2 hn_))); have n1_ := Aside0.mk (Kd.R_mono (ok' := fun k_ => some k_ ≠ (v215 : Value).ownBlock) ho0 (fun k_ hk_ => Or.elim hk_ (fun hs_ => fun e_ => (((HO216.out).1 k_ e_.symm)) hs_) (fun hn_ => (Kd.fresh' (Kd.R_lt (by exact HO216.out)) k_ hn_)))); have n2_ := Aside0.mk (hb); clear HO216; clear HB; clear HO_16; have HO216 := n0_; have HO219 := n1_; have HB := n2_; clear n0_ n1_ n2_; (try clear hb); (try clear hkp); (try clear ho0)))
                              repeat (go_quiet (fail); try go_wp2_with (fail))
                              go_ret2
                              exact ⟨_, _, by rfl, by exact HO216.out, by exact HO219.out, by with_reducible exact HB.out⟩
                · rw [if_neg c18] at H
                  exact absurd H (by simp)
              · rw [if_neg c17] at H
                exact absurd H (by simp)
            · rw [if_neg c15] at H
              exact absurd H (by simp)
          · rw [if_neg c14] at H
            exact absurd H (by simp)
        · rw [if_neg c12] at H
          exact absurd H (by simp)
      · rw [if_neg c11] at H
        exact absurd H (by simp)
    · rw [if_neg c5] at H
      exact absurd H (by simp)
  · rw [if_neg c4] at H
    exact absurd H (by simp)

end Go.Proofs.Ytafhcchjjlbojaa.ZNat
