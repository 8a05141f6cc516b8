-- printed by zprint.py, a program of this session's
import Derived.Test.YtafhcchjjlbojaaZNat0
import Derived.Test.YtafhcchjjlbojaaZNatgRAdd
import Derived.Test.YtafhcchjjlbojaaZNatgRTrim
namespace Go.Proofs.Ytafhcchjjlbojaa.ZNat
open Go.RowKit Go.Proofs.YtafhcchjjlbojaaW.PrintWords Go.Proofs.YtafhcchjjlbojaaW.PrintLast Go.Proofs.YtafhcchjjlbojaaW.PrintMore
set_option linter.unusedVariables false
set_option linter.unusedSimpArgs false

/-! ### zelligeref03_DivMod: function 28 -/
mutual
def zelligeref03_DivMod.l0 : Nat → List Int → List Int → List Int → List Int → Int → Option (List Int × List Int)
  | 0, _, _, _, _, _ => none
  | k + 1, x0, x1, x6, x7, x8 => if x8 ≥ 0 then ((zelligeref03_Add.f k x7 x7).bind fun t486 => (if 0 ≤ (wrap64 (Int.tdiv x8 16)) then (if (wrap64 (Int.tdiv x8 16)) < (x0.length : Int) then (if 0 ≤ (IntKind.u64.wrap (Int.tmod x8 16)) then (if (Int.tmod (shr .i64 (rd x0 (wrap64 (Int.tdiv x8 16))) (IntKind.u64.wrap (Int.tmod x8 16))) 2) = 1 then ((zelligeref03_Add.f k t486 (([1] : List Int))).bind fun t493 => (zelligeref03_DivMod.j1 k x0 x1 x6 t493 x8)) else (zelligeref03_DivMod.j1 k x0 x1 x6 t486 x8)) else (none)) else (none)) else (none))) else ((zelligeref03_Trim.f k x6).bind fun t483 => (some (t483, x7)))
def zelligeref03_DivMod.j1 : Nat → List Int → List Int → List Int → List Int → Int → Option (List Int × List Int)
  | 0, _, _, _, _, _ => none
  | k + 1, x0, x1, x6, x7, x8 => (zelligeref03_Cmp.f k x7 x1).bind fun t496 => (if t496 ≥ 0 then ((zelligeref03_Sub.f k x7 x1).bind fun t497 => (if 0 ≤ (wrap64 (Int.tdiv x8 16)) then (if (wrap64 (Int.tdiv x8 16)) < (x6.length : Int) then (if 0 ≤ (IntKind.u64.wrap (Int.tmod x8 16)) then (zelligeref03_DivMod.l0 k x0 x1 (x6.set ((wrap64 (Int.tdiv x8 16)) : Int).toNat (wrap64 ((rd x6 (wrap64 (Int.tdiv x8 16))) + (shl .i64 1 (IntKind.u64.wrap (Int.tmod x8 16)))))) t497 (wrap64 (x8 - 1))) else (none)) else (none)) else (none))) else (zelligeref03_DivMod.l0 k x0 x1 x6 x7 (wrap64 (x8 - 1))))
end
def zelligeref03_DivMod.f (k : Nat) (l0 : List Int) (l1 : List Int) : Option (List Int × List Int) := if 0 ≤ (l0.length : Int) then (if ((l0.length : Int) : Int).toNat ≤ 35184372088832 then (zelligeref03_DivMod.l0 k l0 l1 (List.replicate ((l0.length : Int) : Int).toNat 0) (([] : List Int)) (wrap64 ((wrap64 (16 * (l0.length : Int))) - 1))) else (none)) else (none)
theorem zelligeref03_DivMod.mono_l : ∀ k, (∀ y0 y1 y2 y3 y4, LeO (zelligeref03_DivMod.l0 k y0 y1 y2 y3 y4) (zelligeref03_DivMod.l0 (k + 1) y0 y1 y2 y3 y4)) ∧ (∀ y0 y1 y2 y3 y4, LeO (zelligeref03_DivMod.j1 k y0 y1 y2 y3 y4) (zelligeref03_DivMod.j1 (k + 1) y0 y1 y2 y3 y4))
  | 0 => ⟨fun _ _ _ _ _ r h => by simp [zelligeref03_DivMod.l0] at h, fun _ _ _ _ _ r h => by simp [zelligeref03_DivMod.j1] at h⟩
  | k + 1 => by
    obtain ⟨ih0, ih1⟩ := zelligeref03_DivMod.mono_l k
    refine ⟨?_, ?_⟩
    · intro y0 y1 y2 y3 y4
      unfold zelligeref03_DivMod.l0
      repeat' first
      | (with_reducible exact ih1 _ _ _ _ _)
      | (with_reducible exact zelligeref03_Add.mono _ _ _)
      | (with_reducible exact zelligeref03_Trim.mono _ _)
      | (with_reducible exact LeO.refl _)
      | (with_reducible refine LeO.ite ?_ ?_)
      | (with_reducible refine LeO.bind ?_ (fun _ => ?_))
    · intro y0 y1 y2 y3 y4
      unfold zelligeref03_DivMod.j1
      repeat' first
      | (with_reducible exact ih0 _ _ _ _ _)
      | (with_reducible exact zelligeref03_Cmp.mono _ _ _)
      | (with_reducible exact zelligeref03_Sub.mono _ _ _)
      | (with_reducible exact LeO.refl _)
      | (with_reducible refine LeO.ite ?_ ?_)
      | (with_reducible refine LeO.bind ?_ (fun _ => ?_))
theorem zelligeref03_DivMod.mono : ∀ a0 a1 k, LeO (zelligeref03_DivMod.f k a0 a1) (zelligeref03_DivMod.f (k + 1) a0 a1) := by
  intro a0 a1 k
  obtain ⟨ih0, ih1⟩ := zelligeref03_DivMod.mono_l k
  unfold zelligeref03_DivMod.f
  repeat' first
      | (with_reducible exact ih0 _ _ _ _ _)
      | (with_reducible exact LeO.refl _)
      | (with_reducible refine LeO.ite ?_ ?_)
set_option maxHeartbeats 8000000 in
set_option maxRecDepth 100000 in
theorem zelligeref03_DivMod.calls (k : Nat) (A0 : Option Addr) (c0 : Nat) (l0 : List Int) (A1 : Option Addr) (c1 : Nat) (l1 : List Int) (r1 : List Int) (r2 : List Int) (w : World) (hr0 : Kd.C (Kd.int .i64) w A0 l0.length l0) (hc0 : l0.length ≤ c0) (hr1 : Kd.C (Kd.int .i64) w A1 l1.length l1) (hc1 : l1.length ≤ c1) (h : zelligeref03_DivMod.f k l0 l1 = some (r1, r2)) :
    Calls Try.prog 28 #[.slice A0 l0.length c0, .slice A1 l1.length c1] w fun e w' => ∃ v0_ v1_ : Value, e = .returned (.tuple #[v0_, v1_]) ∧ Kd.R (Kd.int .i64) 3 w' w.heap.size (fun k_ => some k_ ≠ (v1_ : Value).ownBlock) v0_ r1 ∧ Kd.R (Kd.int .i64) 3 w' w.heap.size (fun k_ => some k_ ≠ (v0_ : Value).ownBlock) v1_ r2 ∧ Below w.heap.size w w' := by
  have HR0 := Aside0.mk hr0
  have HC0 := Aside0.mk hc0
  clear hr0 hc0
  have HR1 := Aside0.mk hr1
  have HC1 := Aside0.mk hc1
  clear hr1 hc1
  have HB := Aside0.mk (Below.refl w.heap.size w)
  have H : (if 0 ≤ (l0.length : Int) then (if ((l0.length : Int) : Int).toNat ≤ 35184372088832 then (zelligeref03_DivMod.l0 k l0 l1 (List.replicate ((l0.length : Int) : Int).toNat 0) (([] : List Int)) (wrap64 ((wrap64 (16 * (l0.length : Int))) - 1))) else (none)) else (none)) = some (r1, r2) := h
  clear h
  by_cases c3 : 0 ≤ (l0.length : Int)
  · rw [if_pos c3] at H
    have c3b0 := eq_true c3
    have c3b1 : decide (0 ≤ (l0.length : Int)) = true := decide_eq_true c3
    clear c3
    by_cases c4 : ((l0.length : Int) : Int).toNat ≤ 35184372088832
    · rw [if_pos c4] at H
      have c4b0 := eq_true c4
      have c4b1 : decide (((l0.length : Int) : Int).toNat ≤ 35184372088832) = true := decide_eq_true c4
      clear c4
      obtain ⟨y477, hy477⟩ : ∃ y_ : List Int, y_ = (List.replicate ((l0.length : Int) : Int).toNat 0) := ⟨_, rfl⟩
      replace H : (zelligeref03_DivMod.l0 k l0 l1 y477 (([] : List Int)) (wrap64 ((wrap64 (16 * (l0.length : Int))) - 1))) = some (r1, r2) := by (rw [hy477]; with_reducible exact H)
      have Ny477 := Aside0.mk hy477
      clear hy477
      obtain ⟨y480, hy480⟩ : ∃ y_ : List Int, y_ = (([] : List Int)) := ⟨_, rfl⟩
      replace H : (zelligeref03_DivMod.l0 k l0 l1 y477 y480 (wrap64 ((wrap64 (16 * (l0.length : Int))) - 1))) = some (r1, r2) := by (rw [hy480]; with_reducible exact H)
      have Ny480 := Aside0.mk hy480
      clear hy480
      have H' := Aside0.mk H
      clear H
      go_enter Try.func28, Try.ntmps28
      go_wp2_with (first | ((with_reducible refine gate_dst (N := 11) rfl ?_); refine Kd.R_make (Kd.int .i64) _ 3 rfl (N := 11) rfl 40 _ _ rfl (l0.length : Int) rfl rfl Try.underlying40 (.int .i64 0) 8 info3 rfl (by decide) (by omega) 0 (ok := fun _ => True) (okp := fun _ => True) rfl (fun _ hk => hk) trivial (of_decide_eq_true (by (with_reducible assumption))) (Nat.le_trans (Nat.mul_le_mul_right _ (of_decide_eq_true (by (with_reducible assumption)) : (l0.length : Int).toNat ≤ 35184372088832)) (by omega)) (Below.refl _ _) (Nat.le_refl _) ?_; intro v478 w5 ho6 hb hg_ hnew_; clear hg_ hnew_; (rw [← Ny477.out] at ho6); have n0_ := Aside0.mk (Kd.R_lower ho6 (below_size (by with_reducible exact HB.out))); have n1_ := Aside0.mk (below_step (by with_reducible exact HB.out) hb); clear HB; have HO479 := n0_; have HB := n1_; clear n0_ n1_; clear hb ho6) | ((with_reducible refine gate_dst (N := 12) rfl ?_); refine Kd.R_lit (Kd.int .i64) _ 3 ?hg (N := 12) ?hd (xs := ([] : List Int)) (inner := []) (ok := fun _ => True) (okp := fun _ => True) ?hr ?hp (fun _ hk => hk) trivial (Below.refl _ _) (Nat.le_refl _) (by simp) ?_; (case hd => rfl); (case hg => rfl); (case hr => (go_simp; done)); (case hp => exact (Reps.none _ _)); intro v481 w7 ho8 hb hg_ hnew_; clear hg_ hnew_; (rw [← Ny480.out] at ho8); have n0_ := Aside0.mk (Kd.R_elder' (by exact HO479.out) (Kd.R_base ho8) hb); have n1_ := Aside0.mk (Kd.R_lower (Kd.R_new' ho8 (Kd.R_lt (by exact HO479.out))) (below_size (by with_reducible exact HB.out))); have n2_ := Aside0.mk (below_step (by with_reducible exact HB.out) hb); clear HO479; clear HB; have HO479 := n0_; have HO482 := n1_; have HB := n2_; clear n0_ n1_ n2_; clear hb ho8))
      go_loopg [7, 8] k (fun kq v7 v8 w' => ∃ (x6_1 : List Int) (x7_1 : List Int) (x8_1 : Int), v8 = .int .i64 x8_1 ∧ Aside0 (zelligeref03_DivMod.l0 kq l0 l1 x6_1 x7_1 x8_1 = some (r1, r2)) ∧ Aside0 (kq ≤ k) ∧ Aside0 (Kd.R (Kd.int .i64) 3 w' w.heap.size (fun k_ => some k_ ≠ (v7 : Value).ownBlock) v478 x6_1) ∧ Aside0 (Kd.R (Kd.int .i64) 3 w' w.heap.size (fun k_ => some k_ ≠ (v478 : Value).ownBlock) v7 x7_1) ∧ Aside0 (Below w.heap.size w w'))
      case atStart => exact ⟨(y477), (y480), (wrap64 ((wrap64 (16 * (l0.length : Int))) - 1)), (by rfl), H', ⟨Nat.le_refl _⟩, ⟨by exact Kd.R_mono HO479.out (fun _ hk => hk.2)⟩, ⟨by exact Kd.R_mono HO482.out (fun _ hk => hk.2)⟩, ⟨by with_reducible exact HB.out⟩⟩
      case round =>
        clear H'
        try clear c3b0
        try clear c3b1
        try clear c4b0
        try clear c4b1
        obtain ⟨x6_1, x7_1, x8_1, rfl, HA, HK1, HO_6, HO_7, HB⟩ := hrel
        cases gk with
        | zero => exact absurd HA.out (by simp [zelligeref03_DivMod.l0])
        | succ k1 =>
          have H := HA.out
          clear HA
          simp only [zelligeref03_DivMod.l0] at H
          by_cases c9 : x8_1 ≥ 0
          · rw [if_pos c9] at H
            have c9b0 : decide (0 ≤ x8_1) = true := decide_eq_true c9
            clear c9
            obtain ⟨t486, A10, H⟩ := bindE H
            obtain ⟨ji11, hji11⟩ : ∃ j_ : Int, (wrap64 (Int.tdiv x8_1 16)) = j_ := ⟨_, rfl⟩
            replace H : (if 0 ≤ (ji11) then (if (ji11) < (l0.length : Int) then (if 0 ≤ (IntKind.u64.wrap (Int.tmod x8_1 16)) then (if (Int.tmod (shr .i64 (rd l0 (ji11)) (IntKind.u64.wrap (Int.tmod x8_1 16))) 2) = 1 then ((zelligeref03_Add.f k1 t486 (([1] : List Int))).bind fun t493 => (zelligeref03_DivMod.j1 k1 l0 l1 x6_1 t493 x8_1)) else (zelligeref03_DivMod.j1 k1 l0 l1 x6_1 t486 x8_1)) else (none)) else (none)) else (none)) = some (r1, r2) := by (rw [hji11] at H; exact H)
            have hji11w : (IntKind.i64.wrap (Int.tdiv x8_1 16)) = ji11 := (i64_w _).trans hji11
            by_cases c12 : 0 ≤ (ji11)
            · rw [if_pos c12] at H
              have c12b0 : decide (0 ≤ (ji11)) = true := decide_eq_true c12
              clear c12
              by_cases c13 : (ji11) < (l0.length : Int)
              · rw [if_pos c13] at H
                have c13b0 : decide ((ji11) < (l0.length : Int)) = true := decide_eq_true c13
                clear c13
                obtain ⟨ji14, hji14⟩ : ∃ j_ : Int, (IntKind.u64.wrap (Int.tmod x8_1 16)) = j_ := ⟨_, rfl⟩
                replace H : (if 0 ≤ (ji14) then (if (Int.tmod (shr .i64 (rd l0 (ji11)) (ji14)) 2) = 1 then ((zelligeref03_Add.f k1 t486 (([1] : List Int))).bind fun t493 => (zelligeref03_DivMod.j1 k1 l0 l1 x6_1 t493 x8_1)) else (zelligeref03_DivMod.j1 k1 l0 l1 x6_1 t486 x8_1)) else (none)) = some (r1, r2) := by (rw [hji14] at H; exact H)
                by_cases c15 : 0 ≤ (ji14)
                · rw [if_pos c15] at H
                  have c15b0 := eq_true c15
                  have c15b1 : decide (0 ≤ (ji14)) = true := decide_eq_true c15
                  clear c15
                  obtain ⟨ji16, hji16⟩ : ∃ j_ : Int, (shr .i64 (rd l0 (ji11)) (ji14)) = j_ := ⟨_, rfl⟩
                  replace H : (if (Int.tmod (ji16) 2) = 1 then ((zelligeref03_Add.f k1 t486 (([1] : List Int))).bind fun t493 => (zelligeref03_DivMod.j1 k1 l0 l1 x6_1 t493 x8_1)) else (zelligeref03_DivMod.j1 k1 l0 l1 x6_1 t486 x8_1)) = some (r1, r2) := by (rw [hji16] at H; exact H)
                  have hji16_ : ((rd l0 (ji11)) / 2 ^ min (ji14).toNat 64) = ji16 := hji16
                  have hji16z : (ji14) ≤ 64 → ((rd l0 (ji11)) / 2 ^ (ji14).toNat) = ji16 := shr_small hji16
                  have HC17 := Aside0.mk H
                  clear H
                  obtain ⟨Ao18, co18, eo18⟩ := Kd.R_slice HO_7.out
                  subst eo18
                  go_upto_if 34 with (((with_reducible refine gate_callee (f := 44) rfl ?_); refine goesL_ (some 23) rfl rfl Try.func44 (by kernel_rfl) rfl #[.slice Ao18 x7_1.length co18, .slice Ao18 x7_1.length co18] rfl (by (try simp only [List.map_toArray, List.map_cons, List.map_nil]); rfl) ?_; (with_reducible refine (zelligeref03_Add.calls k1 _ _ x7_1 _ _ x7_1 t486 _ ?side1 ?side2 ?side3 ?side4 A10.out).mono ?_); (case side1 => exact (Kd.R_reads' HO_7.out).2.2); (case side2 => exact (Kd.R_reads' HO_7.out).2.1); (case side3 => exact (Kd.R_reads' HO_7.out).2.2); (case side4 => exact (Kd.R_reads' HO_7.out).2.1); rintro e w19 ⟨v487, rfl, ho0, hb⟩; refine ⟨_, rfl, ?_⟩; have n0_ := Aside0.mk (Kd.R_elder' (by exact HO_6.out) (Kd.R_base ho0) hb); have n1_ := Aside0.mk (Kd.R_elder' (by exact HO_7.out) (Kd.R_base ho0) hb); have n2_ := Aside0.mk (Kd.R_lower (Kd.R_new' (Kd.R_new' ho0 (Kd.R_lt (by exact HO_6.out))) (Kd.R_lt (by exact HO_7.out))) (below_size (by with_reducible exact HB.out))); have n3_ := Aside0.mk (below_step (by with_reducible exact HB.out) hb); clear HO_6; clear HO_7; clear HB; have HO_6 := n0_; have HO_7 := n1_; have HO488 := n2_; have HB := n3_; clear n0_ n1_ n2_ n3_; (try clear hb); (try clear ho0); have p489 : 0 ≤ ((ji11) : Int) := of_decide_eq_true (by (with_reducible assumption)); have q489 : (ji11) < (l0.length : Int) := of_decide_eq_true (by (with_reducible assumption)); obtain ⟨ad489, e489, hx489_0⟩ := Kd.at_int HR0.out (ji11) p489 q489; cases e489; replace hx489_0 := (HB.out.cell (World.block_lt_of_cell? w _ hx489_0)).trans hx489_0; replace p489 := eq_true p489; replace q489 := eq_true q489))
                  go_cut [7] (fun v7 wc => ∃ (kq : Nat) (x7_16 : List Int), Aside0 (zelligeref03_DivMod.j1 kq l0 l1 x6_1 x7_16 x8_1 = some (r1, r2)) ∧ Aside0 (kq ≤ k1) ∧ Aside0 (Kd.R (Kd.int .i64) 3 wc w.heap.size (fun k_ => some k_ ≠ (v7 : Value).ownBlock) v478 x6_1) ∧ Aside0 (Kd.R (Kd.int .i64) 3 wc w.heap.size (fun k_ => some k_ ≠ (v478 : Value).ownBlock) v7 x7_16) ∧ Aside0 (Below w.heap.size w wc))
                  case first =>
                    have H := HC17.out
                    clear HC17
                    by_cases c20 : (Int.tmod (ji16) 2) = 1
                    · rw [if_pos c20] at H
                      have c20b0 : ((Int.tmod (ji16) 2) == 1) = true := beq_iff_eq.mpr c20
                      have c20b1 : ((Int.tmod (ji16) 2) != 1) = false := bne_eq_false_iff_eq.mpr c20
                      clear c20
                      (rw [c20b0])
                      obtain ⟨y490, hy490⟩ : ∃ y_ : List Int, y_ = (([1] : List Int)) := ⟨_, rfl⟩
                      replace H : ((zelligeref03_Add.f k1 t486 y490).bind fun t493 => (zelligeref03_DivMod.j1 k1 l0 l1 x6_1 t493 x8_1)) = some (r1, r2) := by (rw [hy490]; with_reducible exact H)
                      have Ny490 := Aside0.mk hy490
                      clear hy490
                      obtain ⟨t493, A21, H⟩ := bindE H
                      have H' := Aside0.mk H
                      clear H
                      go_wp2_with (first | ((with_reducible refine gate_dst (N := 36) rfl ?_); refine Kd.R_lit (Kd.int .i64) _ 3 ?hg (N := 36) ?hd (xs := ([1] : List Int)) (inner := [.int .i64 1]) (ok := fun _ => True) (okp := fun _ => True) ?hr ?hp (fun _ hk => hk) trivial (Below.refl _ _) (Nat.le_refl _) (by simp) ?_; (case hd => rfl); (case hg => rfl); (case hr => (go_simp; done)); (case hp => exact (Reps.one (show Kd.M (Kd.int .i64) _ _ _ 1 [.int .i64 1] from rfl) (Reps.none _ _))); intro v491 w22 ho23 hb hg_ hnew_; clear hg_ hnew_; (rw [← Ny490.out] at ho23); have n0_ := Aside0.mk (Kd.R_elder' (by exact HO_6.out) (Kd.R_base ho23) hb); have n1_ := Aside0.mk (Kd.R_elder' (by exact HO_7.out) (Kd.R_base ho23) hb); have n2_ := Aside0.mk (Kd.R_elder' (by exact HO488.out) (Kd.R_base ho23) hb); have n3_ := Aside0.mk (Kd.R_lower (Kd.R_new' (Kd.R_new' (Kd.R_new' ho23 (Kd.R_lt (by exact HO_6.out))) (Kd.R_lt (by exact HO_7.out))) (Kd.R_lt (by exact HO488.out))) (below_size (by with_reducible exact HB.out))); have n4_ := Aside0.mk (below_step (by with_reducible exact HB.out) hb); clear HO_6; clear HO_7; clear HO488; clear HB; have HO_6 := n0_; have HO_7 := n1_; have HO488 := n2_; have HO492 := n3_; have HB := n4_; clear n0_ n1_ n2_ n3_ n4_; clear hb ho23; obtain ⟨Ao24, co24, eo24⟩ := Kd.R_slice HO488.out; subst eo24; obtain ⟨Ao25, co25, eo25⟩ := Kd.R_slice HO492.out; subst eo25) | ((with_reducible refine gate_callee (f := 44) rfl ?_); refine goesL_ (some 37) rfl rfl Try.func44 (by kernel_rfl) rfl #[.slice Ao24 t486.length co24, .slice Ao25 y490.length co25] rfl (by (try simp only [List.map_toArray, List.map_cons, List.map_nil]); rfl) ?_; (with_reducible refine (zelligeref03_Add.calls k1 _ _ t486 _ _ y490 t493 _ ?side1 ?side2 ?side3 ?side4 A21.out).mono ?_); (case side1 => exact (Kd.R_reads' HO488.out).2.2); (case side2 => exact (Kd.R_reads' HO488.out).2.1); (case side3 => exact (Kd.R_reads' HO492.out).2.2); (case side4 => exact (Kd.R_reads' HO492.out).2.1); rintro e w26 ⟨v494, rfl, ho0, hb⟩; refine ⟨_, rfl, ?_⟩; have n0_ := Aside0.mk (Kd.R_elder' (by exact HO_6.out) (Kd.R_base ho0) hb); have n1_ := Aside0.mk (Kd.R_elder' (by exact HO_7.out) (Kd.R_base ho0) hb); have n2_ := Aside0.mk (Kd.R_elder' (by exact HO488.out) (Kd.R_base ho0) hb); have n3_ := Aside0.mk (Kd.R_elder' (by exact HO492.out) (Kd.R_base ho0) hb); have n4_ := Aside0.mk (Kd.R_lower (Kd.R_new' (Kd.R_new' (Kd.R_new' (Kd.R_new' ho0 (Kd.R_lt (by exact HO_6.out))) (Kd.R_lt (by exact HO_7.out))) (Kd.R_lt (by exact HO488.out))) (Kd.R_lt (by exact HO492.out))) (below_size (by with_reducible exact HB.out))); have n5_ := Aside0.mk (below_step (by with_reducible exact HB.out) hb); clear HO_6; clear HO_7; clear HO488; clear HO492; clear HB; have HO_6 := n0_; have HO_7 := n1_; have HO488 := n2_; have HO492 := n3_; have HO495 := n4_; have HB := n5_; clear n0_ n1_ n2_ n3_ n4_ n5_; (try clear hb); (try clear ho0)))
                      go_meet
                      case rel => exact ⟨_, (t493), H', ⟨by have := HK1.out; omega⟩, ⟨by exact Kd.R_mono HO_6.out (fun _ hk => hk.2)⟩, ⟨by exact Kd.R_mono HO495.out (fun _ hk => hk.1.1.1.2)⟩, ⟨by with_reducible exact HB.out⟩⟩
                    · rw [if_neg c20] at H
                      have c20b0 : ((Int.tmod (ji16) 2) == 1) = false := beq_eq_false_iff_ne.mpr c20
                      have c20b1 : ((Int.tmod (ji16) 2) != 1) = true := bne_iff_ne.mpr c20
                      (rw [c20b0])
                      have H' := Aside0.mk H
                      clear H
                      go_wp2
                      go_meet
                      case rel => exact ⟨_, (t486), H', ⟨by have := HK1.out; omega⟩, ⟨by exact Kd.R_mono HO_6.out (fun _ hk => hk.2)⟩, ⟨by exact Kd.R_mono HO488.out (fun _ hk => hk.1.2)⟩, ⟨by with_reducible exact HB.out⟩⟩
                  case rest =>
                    clear HC17
                    try clear c9b0
                    try clear c12b0
                    try clear c13b0
                    try clear c15b0
                    try clear c15b1
                    try clear hx489_0
                    try clear p489
                    try clear q489
                    obtain ⟨kq, x7_16, HA, HJ16, HO_6, HO_7, HB⟩ := hcut
                    cases kq with
                    | zero => exact absurd HA.out (by simp [zelligeref03_DivMod.j1])
                    | succ kj16 =>
                      have H := HA.out
                      clear HA
                      simp only [zelligeref03_DivMod.j1] at H
                      obtain ⟨t496, A27, H⟩ := bindE H
                      by_cases c28 : t496 ≥ 0
                      · rw [if_pos c28] at H
                        have c28b0 : decide (0 ≤ t496) = true := decide_eq_true c28
                        clear c28
                        obtain ⟨t497, A29, H⟩ := bindE H
                        replace H : (if 0 ≤ (ji11) then (if (ji11) < (x6_1.length : Int) then (if 0 ≤ (IntKind.u64.wrap (Int.tmod x8_1 16)) then (zelligeref03_DivMod.l0 kj16 l0 l1 (x6_1.set ((ji11) : Int).toNat (wrap64 ((rd x6_1 (ji11)) + (shl .i64 1 (IntKind.u64.wrap (Int.tmod x8_1 16)))))) t497 (wrap64 (x8_1 - 1))) else (none)) else (none)) else (none)) = some (r1, r2) := by (rw [hji11] at H; exact H)
                        have hji11w : (IntKind.i64.wrap (Int.tdiv x8_1 16)) = ji11 := (i64_w _).trans hji11
                        by_cases c30 : 0 ≤ (ji11)
                        · rw [if_pos c30] at H
                          have c30b0 : decide (0 ≤ (ji11)) = true := decide_eq_true c30
                          clear c30
                          by_cases c31 : (ji11) < (x6_1.length : Int)
                          · rw [if_pos c31] at H
                            have c31b0 : decide ((ji11) < (x6_1.length : Int)) = true := decide_eq_true c31
                            clear c31
                            replace H : (if 0 ≤ (ji14) then (zelligeref03_DivMod.l0 kj16 l0 l1 (x6_1.set ((ji11) : Int).toNat (wrap64 ((rd x6_1 (ji11)) + (shl .i64 1 (ji14))))) t497 (wrap64 (x8_1 - 1))) else (none)) = some (r1, r2) := by (rw [hji14] at H; exact H)
                            by_cases c32 : 0 ≤ (ji14)
                            · rw [if_pos c32] at H
                              have c32b0 := eq_true c32
                              have c32b1 : decide (0 ≤ (ji14)) = true := decide_eq_true c32
                              clear c32
                              obtain ⟨ji33, hji33⟩ : ∃ j_ : Int, (shl .i64 1 (ji14)) = j_ := ⟨_, rfl⟩
                              replace H : (zelligeref03_DivMod.l0 kj16 l0 l1 (x6_1.set ((ji11) : Int).toNat (wrap64 ((rd x6_1 (ji11)) + (ji33)))) t497 (wrap64 (x8_1 - 1))) = some (r1, r2) := by (rw [hji33] at H; exact H)
                              have hji33_ : (IntKind.i64.wrap (1 * 2 ^ min (ji14).toNat 64)) = ji33 := hji33
                              have hji33z : (ji14) ≤ 64 → (IntKind.i64.wrap (1 * 2 ^ (ji14).toNat)) = ji33 := shl_small hji33
                              have hji33u : (IntKind.i64.wrap (2 ^ min (ji14).toNat 64)) = ji33 := by have h_ := hji33_; rw [Int.one_mul] at h_; exact h_
                              have hji33v : (ji14) ≤ 64 → (IntKind.i64.wrap (2 ^ (ji14).toNat)) = ji33 := fun hle_ => by have h_ := hji33z hle_; rw [Int.one_mul] at h_; exact h_
                              have hji33y : (wrap64 (1 * 2 ^ min (ji14).toNat 64)) = ji33 := (i64_w _).symm.trans hji33_
                              have hji33x : (ji14) ≤ 64 → (wrap64 (1 * 2 ^ (ji14).toNat)) = ji33 := fun h_ => (i64_w _).symm.trans (hji33z h_)
                              obtain ⟨y501, hy501⟩ : ∃ y_ : List Int, y_ = (x6_1.set ((ji11) : Int).toNat (wrap64 ((rd x6_1 (ji11)) + (ji33)))) := ⟨_, rfl⟩
                              replace H : (zelligeref03_DivMod.l0 kj16 l0 l1 y501 t497 (wrap64 (x8_1 - 1))) = some (r1, r2) := by (rw [hy501]; with_reducible exact H)
                              have Ny501 := Aside0.mk hy501
                              clear hy501
                              have H' := Aside0.mk H
                              clear H
                              obtain ⟨Ao35, co35, eo35⟩ := Kd.R_slice HO_7.out
                              subst eo35
                              go_wp2_with (first | ((with_reducible refine gate_callee (f := 38) rfl ?_); refine goesL_ (some 40) rfl rfl Try.func38 (by kernel_rfl) rfl #[.slice Ao35 x7_16.length co35, .slice A1 l1.length c1] rfl (by (try simp only [List.map_toArray, List.map_cons, List.map_nil]); rfl) ?_; (with_reducible refine (zelligeref03_Cmp.calls kj16 _ _ x7_16 _ _ l1 t496 _ ?side1 ?side2 ?side3 ?side4 A27.out).mono ?_); (case side1 => exact (Kd.R_reads' HO_7.out).2.2); (case side2 => exact (Kd.R_reads' HO_7.out).2.1); (case side3 => repeat (exact (Kd.C_below HR1.out HB.out))); (case side4 => exact HC1.out); rintro e w' ⟨rfl, ⟨nd, rfl⟩⟩; refine ⟨_, rfl, ?_⟩; (try (rw [drewN_self wc]; generalize hq_ : World.drewN wc _ = wc; have n0_ : Aside0 (Kd.R (Kd.int .i64) 3 wc w.heap.size (fun k_ => some k_ ≠ (.slice Ao35 x7_16.length co35 : Value).ownBlock) v478 x6_1) := ⟨by rw [← hq_]; exact (by (with_reducible repeat (apply Kd.R_drewN)); exact HO_6.out)⟩; have n1_ : Aside0 (Kd.R (Kd.int .i64) 3 wc w.heap.size (fun k_ => some k_ ≠ (v478 : Value).ownBlock) (.slice Ao35 x7_16.length co35) x7_16) := ⟨by rw [← hq_]; exact (by (with_reducible repeat (apply Kd.R_drewN)); exact HO_7.out)⟩; have n2_ : Aside0 (Below w.heap.size w wc) := ⟨by rw [← hq_]; exact (by repeat ((with_reducible first | exact HB.out | apply pw_below_drewN)))⟩; clear HO_6 HO_7 HB hq_; have HO_6 := n0_; have HO_7 := n1_; have HB := n2_; clear n0_ n1_ n2_))) | ((with_reducible refine gate_callee (f := 47) rfl ?_); refine goesL_ (some 44) rfl rfl Try.func47 (by kernel_rfl) rfl #[.slice Ao35 x7_16.length co35, .slice A1 l1.length c1] rfl (by (try simp only [List.map_toArray, List.map_cons, List.map_nil]); rfl) ?_; (with_reducible refine (zelligeref03_Sub.calls kj16 _ _ x7_16 _ _ l1 t497 _ ?side1 ?side2 ?side3 ?side4 A29.out).mono ?_); (case side1 => exact (Kd.R_reads' HO_7.out).2.2); (case side2 => exact (Kd.R_reads' HO_7.out).2.1); (case side3 => repeat (exact (Kd.C_below HR1.out HB.out))); (case side4 => exact HC1.out); rintro e w36 ⟨v498, rfl, ho0, hb⟩; refine ⟨_, rfl, ?_⟩; have n0_ := Aside0.mk (Kd.R_elder' (by exact HO_6.out) (Kd.R_base ho0) hb); have n1_ := Aside0.mk (Kd.R_elder' (by exact HO_7.out) (Kd.R_base ho0) hb); have n2_ := Aside0.mk (Kd.R_lower (Kd.R_new' (Kd.R_new' ho0 (Kd.R_lt (by exact HO_6.out))) (Kd.R_lt (by exact HO_7.out))) (below_size (by with_reducible exact HB.out))); have n3_ := Aside0.mk (below_step (by with_reducible exact HB.out) hb); clear HO_6; clear HO_7; clear HB; have HO_6 := n0_; have HO_7 := n1_; have HO499 := n2_; have HB := n3_; clear n0_ n1_ n2_ n3_; (try clear hb); (try clear ho0); obtain ⟨Ao37, co37, eo37⟩ := Kd.R_slice HO_6.out; subst eo37; have p500 : 0 ≤ ((ji11) : Int) := of_decide_eq_true (by (with_reducible assumption)); have q500 : (ji11) < (x6_1.length : Int) := of_decide_eq_true (by (with_reducible assumption)); obtain ⟨ad500, e500, hx500_0⟩ := Kd.at_int (Kd.R_reads' HO_6.out).2.2 (ji11) p500 q500; cases e500; replace p500 := eq_true p500; replace q500 := eq_true q500; have p34 : 0 ≤ ((ji11) : Int) := of_decide_eq_true (by (with_reducible assumption)); have q34 : ((ji11) : Int) < ((x6_1.length : Int) : Int) := of_decide_eq_true (by (with_reducible assumption)); obtain ⟨go34, co34, eo34, gb34, gl34, cl34, HG34⟩ := Kd.R_form HO_6.out (by omega); (cases eo34); have GB34 := Aside0.mk gb34; have GG34 := Aside0.mk HG34; clear gb34 gl34 HG34; (simp only [add_plain] at hx500_0); obtain ⟨hx34_0, hf34_0⟩ := Kd.R_celln 0 HO_6.out ((ji11) : Int) p34 q34; replace p34 := eq_true p34; replace q34 := eq_true q34; obtain ⟨hy38_, hz38_⟩ := Kd.R_celln 0 HO_6.out ((ji11) : Int) (of_decide_eq_true (by (with_reducible assumption))) (of_decide_eq_true (by (with_reducible assumption))); have HP38 := Kd.R_putg HO_6.out ((ji11) : Int) (wrap64 ((rd x6_1 (ji11)) + (ji33)))) | ((with_reducible refine gate_store (t := 3) (p := 58) rfl ?_); refine store_event (t := 3) (p := 58) (v := ?vo_w39) (w1 := (w36.setCell ⟨go34, ((ji11) : Int).toNat, none⟩ (.int .i64 (wrap64 ((rd x6_1 (ji11)) + (ji33)))))) ?hg ?ho ?hn ?hr ?_; (case ho => rfl); (case hg => rfl); (case hn => rfl); (case hr => (go_simp; done)); intro w39 hw; have hg : w36.grownBy w39 (some go34) := (by rw [hw]; exact HP38.2); have hp_ : Kd.R (Kd.int .i64) 3 w39 w.heap.size (fun k_ => some k_ ≠ (.slice Ao35 x7_16.length co35 : Value).ownBlock ∧ some k_ ≠ (v498 : Value).ownBlock) (.slice (some ⟨go34, 0, none⟩) x6_1.length co37) y501 := (by rw [hw, Ny501.out]; exact HP38.1); clear HP38; have n0_ := Aside0.mk (hp_); have n1_ := Aside0.mk (Kd.R_after (v := (.slice (some ⟨go34, 0, none⟩) x6_1.length co37)) (v1 := (.slice (some ⟨go34, 0, none⟩) x6_1.length co37)) (ok := (fun k_ => some k_ ≠ (v498 : Value).ownBlock)) (by exact Kd.R_mono HO_7.out (fun _ hk => ⟨hk.2, hk.1⟩)) hg (.inl rfl)); have n2_ := Aside0.mk (Kd.R_after (v := (.slice (some ⟨go34, 0, none⟩) x6_1.length co37)) (v1 := (.slice (some ⟨go34, 0, none⟩) x6_1.length co37)) (ok := (fun k_ => some k_ ≠ (.slice Ao35 x7_16.length co35 : Value).ownBlock)) (by exact Kd.R_mono HO499.out (fun _ hk => ⟨hk.2, hk.1.2⟩)) hg (.inl rfl)); have n3_ := Aside0.mk ((by rw [hw]; exact below_set (HB.out) GB34.out : Below w.heap.size w w39)); clear HO_6; clear HO_7; clear HO499; clear HB; have HO_6 := n0_; have HO_7 := n1_; have HO499 := n2_; have HB := n3_; clear n0_ n1_ n2_ n3_; clear hg hw hp_))
                              go_roundg kj16
                              case measure => have := HK1.out; have := HJ16.out; omega
                              case rel => exact ⟨(y501), (t497), (wrap64 (x8_1 - 1)), (by rfl), H', ⟨by have := HK1.out; have := HJ16.out; omega⟩, ⟨by exact Kd.R_mono HO_6.out (fun _ hk => hk.2)⟩, ⟨by exact Kd.R_mono HO499.out (fun _ hk => hk.2)⟩, ⟨by with_reducible exact HB.out⟩⟩
                            · rw [if_neg c32] at H
                              exact absurd H (by simp)
                          · rw [if_neg c31] at H
                            exact absurd H (by simp)
                        · rw [if_neg c30] at H
                          exact absurd H (by simp)
                      · rw [if_neg c28] at H
                        have c28b0 : decide (0 ≤ t496) = false := decide_eq_false c28
                        clear c28
                        have H' := Aside0.mk H
                        clear H
                        obtain ⟨Ao40, co40, eo40⟩ := Kd.R_slice HO_7.out
                        subst eo40
                        go_wp2_with (((with_reducible refine gate_callee (f := 38) rfl ?_); refine goesL_ (some 40) rfl rfl Try.func38 (by kernel_rfl) rfl #[.slice Ao40 x7_16.length co40, .slice A1 l1.length c1] rfl (by (try simp only [List.map_toArray, List.map_cons, List.map_nil]); rfl) ?_; (with_reducible refine (zelligeref03_Cmp.calls kj16 _ _ x7_16 _ _ l1 t496 _ ?side1 ?side2 ?side3 ?side4 A27.out).mono ?_); (case side1 => exact (Kd.R_reads' HO_7.out).2.2); (case side2 => exact (Kd.R_reads' HO_7.out).2.1); (case side3 => repeat (exact (Kd.C_below HR1.out HB.out))); (case side4 => exact HC1.out); rintro e w' ⟨rfl, ⟨nd, rfl⟩⟩; refine ⟨_, rfl, ?_⟩))
                        go_roundg kj16
                        case measure => have := HK1.out; have := HJ16.out; omega
                        case rel => exact ⟨(x6_1), (x7_16), (wrap64 (x8_1 - 1)), (by rfl), H', ⟨by have := HK1.out; have := HJ16.out; omega⟩, ⟨by (with_reducible repeat (apply Kd.R_drewN)); exact HO_6.out⟩, ⟨by (with_reducible repeat (apply Kd.R_drewN)); exact HO_7.out⟩, ⟨by repeat ((with_reducible first | exact HB.out | apply pw_below_drewN))⟩⟩
                · rw [if_neg c15] at H
                  exact absurd H (by simp)
              · rw [if_neg c13] at H
                exact absurd H (by simp)
            · rw [if_neg c12] at H
              exact absurd H (by simp)
          · rw [if_neg c9] at H
            have c9b0 : decide (0 ≤ x8_1) = false := decide_eq_false c9
            clear c9
            obtain ⟨t483, A41, H⟩ := bindE H
            simp only [Option.some.injEq, Prod.mk.injEq] at H
            obtain ⟨rfl, rfl⟩ := H
            obtain ⟨Ao42, co42, eo42⟩ := Kd.R_slice HO_6.out
            subst eo42
            go_wp2_with (((with_reducible refine gate_callee (f := 58) rfl ?_); refine goesL_ (some 60) rfl rfl Try.func58 (by kernel_rfl) rfl #[.slice Ao42 x6_1.length co42] rfl (by (try simp only [List.map_toArray, List.map_cons, List.map_nil]); rfl) ?_; (with_reducible refine (zelligeref03_Trim.calls k1 (fun k_ => some k_ = (.slice Ao42 x6_1.length co42 : Value).ownBlock) (.slice Ao42 x6_1.length co42) x6_1 t483 w _ ?side1 ?side2 A41.out).mono ?_); (case side1 => repeat ((with_reducible exact HB.out))); (case side2 => exact Kd.R_tight rfl HO_6.out); rintro e w43 ⟨v484, rfl, ho0, hb, hkp⟩; refine ⟨_, rfl, ?_⟩; have n0_ := Aside0.mk (Kd.R_mono (ok' := fun k_ => some k_ ≠ (v484 : Value).ownBlock) (Kd.R_keptB (HO_7.out) hkp (fun k_ hk_ hs_ => (hk_) hs_)) (fun k_ hk_ => fun e_ => Or.elim (ho0.1 k_ e_.symm) (fun hs_ => hk_.2.1 hs_) (fun hn_ => Nat.not_le.2 hk_.2.2 hn_))); have n1_ := Aside0.mk (Kd.R_mono (ok' := fun k_ => some k_ ≠ (u7 : Value).ownBlock) ho0 (fun k_ hk_ => Or.elim hk_ (fun hs_ => fun e_ => (((HO_7.out).1 k_ e_.symm)) hs_) (fun hn_ => (Kd.fresh' (Kd.R_lt (by exact HO_7.out)) k_ hn_)))); have n2_ := Aside0.mk (hb); clear HO_7; clear HB; clear HO_6; have HO_7 := n0_; have HO485 := n1_; have HB := n2_; clear n0_ n1_ n2_; (try clear hb); (try clear hkp); (try clear ho0)))
            go_ret2
            exact ⟨_, _, by rfl, by exact HO485.out, by exact HO_7.out, by with_reducible exact HB.out⟩
    · rw [if_neg c4] at H
      exact absurd H (by simp)
  · rw [if_neg c3] at H
    exact absurd H (by simp)

end Go.Proofs.Ytafhcchjjlbojaa.ZNat
