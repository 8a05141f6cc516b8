-- printed by zprint.py, a program of this session's
import Derived.Test.YtmfmojldebhboaaZWhole0
import Derived.Test.YtmfmojldebhboaaZWholegRAdd
import Derived.Test.YtmfmojldebhboaaZWholegRTrim
namespace Go.Proofs.Ytmfmojldebhboaa.ZWhole
open Go.RowKit Go.Proofs.YtmfmojldebhboaaW.PrintWords Go.Proofs.YtmfmojldebhboaaW.PrintLast Go.Proofs.YtmfmojldebhboaaW.PrintMore
set_option linter.unusedVariables false
set_option linter.unusedSimpArgs false

/-! ### zelligeref03_DivMod: function 50 -/
mutual
def zelligeref03_DivMod.l0 : Nat → List Int → List Int → List Int → List Int → Int → Option (List Int × List Int)
 | 0, _, _, _, _, _ => none
 | k + 1, x0, x1, x6, x7, x8 => if x8 ≥ 0 then ((zelligeref03_Add.f k x7 x7).bind fun t616 => (if 0 ≤ (wrap64 (Int.tdiv x8 16)) then (if (wrap64 (Int.tdiv x8 16)) < (x0.length : Int) then (if 0 ≤ (IntKind.u64.wrap (Int.tmod x8 16)) then (if (Int.tmod (shr .i64 (rd x0 (wrap64 (Int.tdiv x8 16))) (IntKind.u64.wrap (Int.tmod x8 16))) 2) = 1 then ((zelligeref03_Add.f k t616 (([1] : List Int))).bind fun t623 => (zelligeref03_DivMod.j1 k x0 x1 x6 t623 x8)) else (zelligeref03_DivMod.j1 k x0 x1 x6 t616 x8)) else (none)) else (none)) else (none))) else ((zelligeref03_Trim_own.f k x6).bind fun t613 => (some (t613, x7)))
def zelligeref03_DivMod.j1 : Nat → List Int → List Int → List Int → List Int → Int → Option (List Int × List Int)
 | 0, _, _, _, _, _ => none
 | k + 1, x0, x1, x6, x7, x8 => (zelligeref03_Cmp.f k x7 x1).bind fun t626 => (if t626 ≥ 0 then ((zelligeref03_Sub.f k x7 x1).bind fun t627 => (if 0 ≤ (wrap64 (Int.tdiv x8 16)) then (if (wrap64 (Int.tdiv x8 16)) < (x6.length : Int) then (if 0 ≤ (IntKind.u64.wrap (Int.tmod x8 16)) then (zelligeref03_DivMod.l0 k x0 x1 (x6.set ((wrap64 (Int.tdiv x8 16)) : Int).toNat (wrap64 ((rd x6 (wrap64 (Int.tdiv x8 16))) + (shl .i64 1 (IntKind.u64.wrap (Int.tmod x8 16)))))) t627 (wrap64 (x8 - 1))) else (none)) else (none)) else (none))) else (zelligeref03_DivMod.l0 k x0 x1 x6 x7 (wrap64 (x8 - 1))))
end
def zelligeref03_DivMod.f (k : Nat) (l0 : List Int) (l1 : List Int) : Option (List Int × List Int) := if 0 ≤ (l0.length : Int) then (if ((l0.length : Int) : Int).toNat ≤ 35184372088832 then (zelligeref03_DivMod.l0 k l0 l1 (List.replicate ((l0.length : Int) : Int).toNat 0) (([] : List Int)) (wrap64 ((wrap64 (16 * (l0.length : Int))) - 1))) else (none)) else (none)
theorem zelligeref03_DivMod.mono_l : ∀ k, (∀ y0 y1 y2 y3 y4, LeO (zelligeref03_DivMod.l0 k y0 y1 y2 y3 y4) (zelligeref03_DivMod.l0 (k + 1) y0 y1 y2 y3 y4)) ∧ (∀ y0 y1 y2 y3 y4, LeO (zelligeref03_DivMod.j1 k y0 y1 y2 y3 y4) (zelligeref03_DivMod.j1 (k + 1) y0 y1 y2 y3 y4))
 | 0 => ⟨fun _ _ _ _ _ r h => by simp [zelligeref03_DivMod.l0] at h, fun _ _ _ _ _ r h => by simp [zelligeref03_DivMod.j1] at h⟩
 | k + 1 => by
  obtain ⟨ih0, ih1⟩ := zelligeref03_DivMod.mono_l k
  refine ⟨?_, ?_⟩
  ·
   intro y0 y1 y2 y3 y4
   unfold zelligeref03_DivMod.l0
   repeat' first
   | (with_reducible exact ih1 _ _ _ _ _)
   | (with_reducible exact zelligeref03_Add.mono _ _ _)
   | (with_reducible exact zelligeref03_Trim_own.mono _ _)
   | (with_reducible exact LeO.refl _)
   | (with_reducible refine LeO.ite ?_ ?_)
   | (with_reducible refine LeO.bind ?_ (fun _ => ?_))
  ·
   intro y0 y1 y2 y3 y4
   unfold zelligeref03_DivMod.j1
   repeat' first
   | (with_reducible exact ih0 _ _ _ _ _)
   | (with_reducible exact zelligeref03_Cmp.mono _ _ _)
   | (with_reducible exact zelligeref03_Sub.mono _ _ _)
   | (with_reducible exact LeO.refl _)
   | (with_reducible refine LeO.ite ?_ ?_)
   | (with_reducible refine LeO.bind ?_ (fun _ => ?_))
theorem zelligeref03_DivMod.mono : ∀ a0 a1 k, LeO (zelligeref03_DivMod.f k a0 a1) (zelligeref03_DivMod.f (k + 1) a0 a1) := by
 intro a0 a1 k
 obtain ⟨ih0, ih1⟩ := zelligeref03_DivMod.mono_l k
 unfold zelligeref03_DivMod.f
 repeat' first
   | (with_reducible exact ih0 _ _ _ _ _)
   | (with_reducible exact LeO.refl _)
   | (with_reducible refine LeO.ite ?_ ?_)
set_option maxHeartbeats 8000000 in
set_option maxRecDepth 100000 in
theorem zelligeref03_DivMod.calls (k : Nat) (A0 : Option Addr) (c0 : Nat) (l0 : List Int) (A1 : Option Addr) (c1 : Nat) (l1 : List Int) (r1 : List Int) (r2 : List Int) (w : World) (hr0 : Kd.C (Kd.int .i64) w A0 l0.length l0) (hc0 : l0.length ≤ c0) (hr1 : Kd.C (Kd.int .i64) w A1 l1.length l1) (hc1 : l1.length ≤ c1) (h : zelligeref03_DivMod.f k l0 l1 = some (r1, r2)) :
  Calls Try.prog 50 #[.slice A0 l0.length c0, .slice A1 l1.length c1] w fun e w' => ∃ v0_ v1_ : Value, e = .returned (.tuple #[v0_, v1_]) ∧ Kd.R (Kd.int .i64) 3 w' w.heap.size (fun k_ => some k_ ≠ (v1_ : Value).ownBlock) v0_ r1 ∧ Kd.R (Kd.int .i64) 3 w' w.heap.size (fun k_ => some k_ ≠ (v0_ : Value).ownBlock) v1_ r2 ∧ Below w.heap.size w w' := by
 have HR0 := am hr0
 have HC0 := am hc0
 clear hr0 hc0
 have HR1 := am hr1
 have HC1 := am hc1
 clear hr1 hc1
 have HB := am (Below.refl w.heap.size w)
 have H : (if 0 ≤ (l0.length : Int) then (if ((l0.length : Int) : Int).toNat ≤ 35184372088832 then (zelligeref03_DivMod.l0 k l0 l1 (List.replicate ((l0.length : Int) : Int).toNat 0) (([] : List Int)) (wrap64 ((wrap64 (16 * (l0.length : Int))) - 1))) else (none)) else (none)) = some (r1, r2) := h
 clear h
 obtain ⟨c3, H⟩ := iteS H
 have c3b0 := eq_true c3
 have c3b1 : decide (0 ≤ (l0.length : Int)) = true := decide_eq_true c3
 clear c3
 obtain ⟨c4, H⟩ := iteS H
 have c4b0 := eq_true c4
 have c4b1 : decide (((l0.length : Int) : Int).toNat ≤ 35184372088832) = true := decide_eq_true c4
 clear c4
 obtain ⟨y607, hy607⟩ : ∃ y_ : List Int, y_ = (List.replicate ((l0.length : Int) : Int).toNat 0) := ⟨_, rfl⟩
 replace H : (zelligeref03_DivMod.l0 k l0 l1 y607 (([] : List Int)) (wrap64 ((wrap64 (16 * (l0.length : Int))) - 1))) = some (r1, r2) := by (rw [hy607]; with_reducible exact H)
 have Ny607 := am hy607
 clear hy607
 obtain ⟨y610, hy610⟩ : ∃ y_ : List Int, y_ = (([] : List Int)) := ⟨_, rfl⟩
 replace H : (zelligeref03_DivMod.l0 k l0 l1 y607 y610 (wrap64 ((wrap64 (16 * (l0.length : Int))) - 1))) = some (r1, r2) := by (rw [hy610]; with_reducible exact H)
 have Ny610 := am hy610
 clear hy610
 have H' := am H
 clear H
 go_enter Try.func50, Try.ntmps50
 go_wp2_with (first | ((with_reducible refine gate_dst (N := 11) rfl ?_); refine Kd.R_make (Kd.int .i64) _ 3 rfl (N := 11) rfl 30 _ _ rfl (l0.length : Int) rfl rfl Try.underlying30 (.int .i64 0) 8 info3 rfl (by decide) (by omega) 0 (ok := fun _ => True) (okp := fun _ => True) rfl (fun _ hk => hk) trivial (of_decide_eq_true (by (with_reducible assumption))) (Nat.le_trans (Nat.mul_le_mul_right _ (of_decide_eq_true (by (with_reducible assumption)) : (l0.length : Int).toNat ≤ 35184372088832)) (by omega)) (Below.refl _ _) (Nat.le_refl _) ?_; intro v608 w5 ho6 hb hg_ hnew_; clear hg_ hnew_; (rw [← Ny607.out] at ho6); have HO609 := am (Kd.R_lower ho6 (below_size HB.out)); replace HB := am (below_step HB.out hb); clear hb ho6) | ((with_reducible refine gate_dst (N := 12) rfl ?_); refine Kd.R_lit (Kd.int .i64) _ 3 ?hg (N := 12) ?hd (xs := ([] : List Int)) (inner := []) (ok := fun _ => True) (okp := fun _ => True) ?hr ?hp (fun _ hk => hk) trivial (Below.refl _ _) (Nat.le_refl _) (by simp) ?_; (case hd => rfl); (case hg => rfl); (case hr => (go_simp; done)); (case hp => exact (Reps.none _ _)); intro v611 w7 ho8 hb hg_ hnew_; clear hg_ hnew_; (rw [← Ny610.out] at ho8); have HO612 := am (Kd.R_lower (Kd.R_new' ho8 (Kd.R_lt HO609.out)) (below_size HB.out)); replace HO609 := am (Kd.R_elder' HO609.out (Kd.R_base ho8) hb); replace HB := am (below_step HB.out hb); clear hb ho8))
 go_loopg [7, 8] k (fun kq v7 v8 w' => ∃ (x6_1 : List Int) (x7_1 : List Int) (x8_1 : Int), v8 = .int .i64 x8_1 ∧ Aside0 (zelligeref03_DivMod.l0 kq l0 l1 x6_1 x7_1 x8_1 = some (r1, r2)) ∧ Aside0 (kq ≤ k) ∧ Aside0 (Kd.R (Kd.int .i64) 3 w' w.heap.size (fun k_ => some k_ ≠ (v7 : Value).ownBlock) v608 x6_1) ∧ Aside0 (Kd.R (Kd.int .i64) 3 w' w.heap.size (fun k_ => some k_ ≠ (v608 : Value).ownBlock) v7 x7_1) ∧ Aside0 (Below w.heap.size w w'))
 case atStart => exact ⟨(y607), (y610), (wrap64 ((wrap64 (16 * (l0.length : Int))) - 1)), (by rfl), H', ⟨Nat.le_refl _⟩, ⟨by exact Kd.R_mono HO609.out (fun _ hk => hk.2)⟩, ⟨by exact Kd.R_mono HO612.out (fun _ hk => hk.2)⟩, ⟨by with_reducible exact HB.out⟩⟩
 case round =>
  clear H'
  try clear c3b0
  try clear c3b1
  try clear c4b0
  try clear c4b1
  obtain ⟨x6_1, x7_1, x8_1, rfl, HA, HK1, HO_6, HO_7, HB⟩ := hrel
  cases gk with
  | zero => exact absurd HA.out (by simp [zelligeref03_DivMod.l0])
  | succ k1 =>
   have H := HA.out
   clear HA
   simp only [zelligeref03_DivMod.l0] at H
   by_cases c9 : x8_1 ≥ 0
   ·
    rw [if_pos c9] at H
    have c9b0 : decide (0 ≤ x8_1) = true := decide_eq_true c9
    clear c9
    obtain ⟨t616, A10, H⟩ := bindE H
    obtain ⟨ji11, hji11⟩ : ∃ j_ : Int, (wrap64 (Int.tdiv x8_1 16)) = j_ := ⟨_, rfl⟩
    replace H : (if 0 ≤ (ji11) then (if (ji11) < (l0.length : Int) then (if 0 ≤ (IntKind.u64.wrap (Int.tmod x8_1 16)) then (if (Int.tmod (shr .i64 (rd l0 (ji11)) (IntKind.u64.wrap (Int.tmod x8_1 16))) 2) = 1 then ((zelligeref03_Add.f k1 t616 (([1] : List Int))).bind fun t623 => (zelligeref03_DivMod.j1 k1 l0 l1 x6_1 t623 x8_1)) else (zelligeref03_DivMod.j1 k1 l0 l1 x6_1 t616 x8_1)) else (none)) else (none)) else (none)) = some (r1, r2) := by (rw [hji11] at H; exact H)
    have hji11w : (IntKind.i64.wrap (Int.tdiv x8_1 16)) = ji11 := (i64_w _).trans hji11
    obtain ⟨c12, H⟩ := iteS H
    have c12b0 : decide (0 ≤ (ji11)) = true := decide_eq_true c12
    clear c12
    obtain ⟨c13, H⟩ := iteS H
    have c13b0 : decide ((ji11) < (l0.length : Int)) = true := decide_eq_true c13
    clear c13
    obtain ⟨ji14, hji14⟩ : ∃ j_ : Int, (IntKind.u64.wrap (Int.tmod x8_1 16)) = j_ := ⟨_, rfl⟩
    replace H : (if 0 ≤ (ji14) then (if (Int.tmod (shr .i64 (rd l0 (ji11)) (ji14)) 2) = 1 then ((zelligeref03_Add.f k1 t616 (([1] : List Int))).bind fun t623 => (zelligeref03_DivMod.j1 k1 l0 l1 x6_1 t623 x8_1)) else (zelligeref03_DivMod.j1 k1 l0 l1 x6_1 t616 x8_1)) else (none)) = some (r1, r2) := by (rw [hji14] at H; exact H)
    obtain ⟨c15, H⟩ := iteS H
    have c15b0 := eq_true c15
    have c15b1 : decide (0 ≤ (ji14)) = true := decide_eq_true c15
    clear c15
    obtain ⟨ji16, hji16⟩ : ∃ j_ : Int, (shr .i64 (rd l0 (ji11)) (ji14)) = j_ := ⟨_, rfl⟩
    replace H : (if (Int.tmod (ji16) 2) = 1 then ((zelligeref03_Add.f k1 t616 (([1] : List Int))).bind fun t623 => (zelligeref03_DivMod.j1 k1 l0 l1 x6_1 t623 x8_1)) else (zelligeref03_DivMod.j1 k1 l0 l1 x6_1 t616 x8_1)) = some (r1, r2) := by (rw [hji16] at H; exact H)
    have hji16_ : ((rd l0 (ji11)) / 2 ^ min (ji14).toNat 64) = ji16 := hji16
    have hji16z : (ji14) ≤ 64 → ((rd l0 (ji11)) / 2 ^ (ji14).toNat) = ji16 := shr_small hji16
    have HC17 := am H
    clear H
    obtain ⟨Ao18, co18, eo18⟩ := Kd.R_slice HO_7.out
    subst eo18
    go_upto_if 34 with (((with_reducible refine gate_callee (f := 53) rfl ?_); refine goesL_ (some 23) rfl rfl Try.func53 (by kernel_rfl) rfl #[.slice Ao18 x7_1.length co18, .slice Ao18 x7_1.length co18] rfl (by (try simp only [List.map_toArray, List.map_cons, List.map_nil]); rfl) ?_; (with_reducible refine (zelligeref03_Add.calls k1 _ _ x7_1 _ _ x7_1 t616 _ ?side1 ?side2 ?side3 ?side4 A10.out).mono ?_); (case side1 => exact (Kd.R_reads' HO_7.out).2.2); (case side2 => exact (Kd.R_reads' HO_7.out).2.1); (case side3 => exact (Kd.R_reads' HO_7.out).2.2); (case side4 => exact (Kd.R_reads' HO_7.out).2.1); rintro e w19 ⟨v617, rfl, ho0, hb⟩; refine ⟨_, rfl, ?_⟩; have HO618 := am (Kd.R_lower (Kd.R_new' (Kd.R_new' ho0 (Kd.R_lt HO_6.out)) (Kd.R_lt HO_7.out)) (below_size HB.out)); replace HO_6 := am (Kd.R_elder' HO_6.out (Kd.R_base ho0) hb); replace HO_7 := am (Kd.R_elder' HO_7.out (Kd.R_base ho0) hb); replace HB := am (below_step HB.out hb); (try clear hb); (try clear ho0); have p619 : 0 ≤ ((ji11) : Int) := of_decide_eq_true (by (with_reducible assumption)); have q619 : (ji11) < (l0.length : Int) := of_decide_eq_true (by (with_reducible assumption)); obtain ⟨ad619, e619, hx619_0⟩ := Kd.at_int HR0.out (ji11) p619 q619; cases e619; replace hx619_0 := (HB.out.cell (World.block_lt_of_cell? w _ hx619_0)).trans hx619_0; replace p619 := eq_true p619; replace q619 := eq_true q619))
    go_cut [7] (fun v7 wc => ∃ (kq : Nat) (x7_16 : List Int), Aside0 (zelligeref03_DivMod.j1 kq l0 l1 x6_1 x7_16 x8_1 = some (r1, r2)) ∧ Aside0 (kq ≤ k1) ∧ Aside0 (Kd.R (Kd.int .i64) 3 wc w.heap.size (fun k_ => some k_ ≠ (v7 : Value).ownBlock) v608 x6_1) ∧ Aside0 (Kd.R (Kd.int .i64) 3 wc w.heap.size (fun k_ => some k_ ≠ (v608 : Value).ownBlock) v7 x7_16) ∧ Aside0 (Below w.heap.size w wc))
    case first =>
     have H := HC17.out
     clear HC17
     by_cases c20 : (Int.tmod (ji16) 2) = 1
     ·
      rw [if_pos c20] at H
      have c20b0 : ((Int.tmod (ji16) 2) == 1) = true := beq_iff_eq.mpr c20
      have c20b1 : ((Int.tmod (ji16) 2) != 1) = false := bne_eq_false_iff_eq.mpr c20
      clear c20
      (rw [c20b0])
      obtain ⟨y620, hy620⟩ : ∃ y_ : List Int, y_ = (([1] : List Int)) := ⟨_, rfl⟩
      replace H : ((zelligeref03_Add.f k1 t616 y620).bind fun t623 => (zelligeref03_DivMod.j1 k1 l0 l1 x6_1 t623 x8_1)) = some (r1, r2) := by (rw [hy620]; with_reducible exact H)
      have Ny620 := am hy620
      clear hy620
      obtain ⟨t623, A21, H⟩ := bindE H
      have H' := am H
      clear H
      go_wp2_with (first | ((with_reducible refine gate_dst (N := 36) rfl ?_); refine Kd.R_lit (Kd.int .i64) _ 3 ?hg (N := 36) ?hd (xs := ([1] : List Int)) (inner := [.int .i64 1]) (ok := fun _ => True) (okp := fun _ => True) ?hr ?hp (fun _ hk => hk) trivial (Below.refl _ _) (Nat.le_refl _) (by simp) ?_; (case hd => rfl); (case hg => rfl); (case hr => (go_simp; done)); (case hp => exact (Reps.one (show Kd.M (Kd.int .i64) _ _ _ 1 [.int .i64 1] from rfl) (Reps.none _ _))); intro v621 w22 ho23 hb hg_ hnew_; clear hg_ hnew_; (rw [← Ny620.out] at ho23); have HO622 := am (Kd.R_lower (Kd.R_new' (Kd.R_new' (Kd.R_new' ho23 (Kd.R_lt HO_6.out)) (Kd.R_lt HO_7.out)) (Kd.R_lt HO618.out)) (below_size HB.out)); replace HO_6 := am (Kd.R_elder' HO_6.out (Kd.R_base ho23) hb); replace HO_7 := am (Kd.R_elder' HO_7.out (Kd.R_base ho23) hb); replace HO618 := am (Kd.R_elder' HO618.out (Kd.R_base ho23) hb); replace HB := am (below_step HB.out hb); clear hb ho23; obtain ⟨Ao24, co24, eo24⟩ := Kd.R_slice HO618.out; subst eo24; obtain ⟨Ao25, co25, eo25⟩ := Kd.R_slice HO622.out; subst eo25) | ((with_reducible refine gate_callee (f := 53) rfl ?_); refine goesL_ (some 37) rfl rfl Try.func53 (by kernel_rfl) rfl #[.slice Ao24 t616.length co24, .slice Ao25 y620.length co25] rfl (by (try simp only [List.map_toArray, List.map_cons, List.map_nil]); rfl) ?_; (with_reducible refine (zelligeref03_Add.calls k1 _ _ t616 _ _ y620 t623 _ ?side1 ?side2 ?side3 ?side4 A21.out).mono ?_); (case side1 => exact (Kd.R_reads' HO618.out).2.2); (case side2 => exact (Kd.R_reads' HO618.out).2.1); (case side3 => exact (Kd.R_reads' HO622.out).2.2); (case side4 => exact (Kd.R_reads' HO622.out).2.1); rintro e w26 ⟨v624, rfl, ho0, hb⟩; refine ⟨_, rfl, ?_⟩; have HO625 := am (Kd.R_lower (Kd.R_new' (Kd.R_new' (Kd.R_new' (Kd.R_new' ho0 (Kd.R_lt HO_6.out)) (Kd.R_lt HO_7.out)) (Kd.R_lt HO618.out)) (Kd.R_lt HO622.out)) (below_size HB.out)); replace HO_6 := am (Kd.R_elder' HO_6.out (Kd.R_base ho0) hb); replace HO_7 := am (Kd.R_elder' HO_7.out (Kd.R_base ho0) hb); replace HO618 := am (Kd.R_elder' HO618.out (Kd.R_base ho0) hb); replace HO622 := am (Kd.R_elder' HO622.out (Kd.R_base ho0) hb); replace HB := am (below_step HB.out hb); (try clear hb); (try clear ho0)))
      go_meet
      case rel => exact ⟨_, (t623), H', ⟨by have := HK1.out; omega⟩, ⟨by exact Kd.R_mono HO_6.out (fun _ hk => hk.2)⟩, ⟨by exact Kd.R_mono HO625.out (fun _ hk => hk.1.1.1.2)⟩, ⟨by with_reducible exact HB.out⟩⟩
     ·
      rw [if_neg c20] at H
      have c20b0 : ((Int.tmod (ji16) 2) == 1) = false := beq_eq_false_iff_ne.mpr c20
      have c20b1 : ((Int.tmod (ji16) 2) != 1) = true := bne_iff_ne.mpr c20
      (rw [c20b0])
      have H' := am H
      clear H
      go_wp2
      go_meet
      case rel => exact ⟨_, (t616), H', ⟨by have := HK1.out; omega⟩, ⟨by exact Kd.R_mono HO_6.out (fun _ hk => hk.2)⟩, ⟨by exact Kd.R_mono HO618.out (fun _ hk => hk.1.2)⟩, ⟨by with_reducible exact HB.out⟩⟩
    case rest =>
     clear HC17
     try clear c9b0
     try clear c12b0
     try clear c13b0
     try clear c15b0
     try clear c15b1
     try clear hx619_0
     try clear p619
     try clear q619
     obtain ⟨kq, x7_16, HA, HJ16, HO_6, HO_7, HB⟩ := hcut
     cases kq with
     | zero => exact absurd HA.out (by simp [zelligeref03_DivMod.j1])
     | succ kj16 =>
      have H := HA.out
      clear HA
      simp only [zelligeref03_DivMod.j1] at H
      obtain ⟨t626, A27, H⟩ := bindE H
      by_cases c28 : t626 ≥ 0
      ·
       rw [if_pos c28] at H
       have c28b0 : decide (0 ≤ t626) = true := decide_eq_true c28
       clear c28
       obtain ⟨t627, A29, H⟩ := bindE H
       replace H : (if 0 ≤ (ji11) then (if (ji11) < (x6_1.length : Int) then (if 0 ≤ (IntKind.u64.wrap (Int.tmod x8_1 16)) then (zelligeref03_DivMod.l0 kj16 l0 l1 (x6_1.set ((ji11) : Int).toNat (wrap64 ((rd x6_1 (ji11)) + (shl .i64 1 (IntKind.u64.wrap (Int.tmod x8_1 16)))))) t627 (wrap64 (x8_1 - 1))) else (none)) else (none)) else (none)) = some (r1, r2) := by (rw [hji11] at H; exact H)
       have hji11w : (IntKind.i64.wrap (Int.tdiv x8_1 16)) = ji11 := (i64_w _).trans hji11
       obtain ⟨c30, H⟩ := iteS H
       have c30b0 : decide (0 ≤ (ji11)) = true := decide_eq_true c30
       clear c30
       obtain ⟨c31, H⟩ := iteS H
       have c31b0 : decide ((ji11) < (x6_1.length : Int)) = true := decide_eq_true c31
       clear c31
       replace H : (if 0 ≤ (ji14) then (zelligeref03_DivMod.l0 kj16 l0 l1 (x6_1.set ((ji11) : Int).toNat (wrap64 ((rd x6_1 (ji11)) + (shl .i64 1 (ji14))))) t627 (wrap64 (x8_1 - 1))) else (none)) = some (r1, r2) := by (rw [hji14] at H; exact H)
       obtain ⟨c32, H⟩ := iteS H
       have c32b0 := eq_true c32
       have c32b1 : decide (0 ≤ (ji14)) = true := decide_eq_true c32
       clear c32
       obtain ⟨ji33, hji33⟩ : ∃ j_ : Int, (shl .i64 1 (ji14)) = j_ := ⟨_, rfl⟩
       replace H : (zelligeref03_DivMod.l0 kj16 l0 l1 (x6_1.set ((ji11) : Int).toNat (wrap64 ((rd x6_1 (ji11)) + (ji33)))) t627 (wrap64 (x8_1 - 1))) = some (r1, r2) := by (rw [hji33] at H; exact H)
       have hji33_ : (IntKind.i64.wrap (1 * 2 ^ min (ji14).toNat 64)) = ji33 := hji33
       have hji33z : (ji14) ≤ 64 → (IntKind.i64.wrap (1 * 2 ^ (ji14).toNat)) = ji33 := shl_small hji33
       have hji33u : (IntKind.i64.wrap (2 ^ min (ji14).toNat 64)) = ji33 := by have h_ := hji33_; rw [Int.one_mul] at h_; exact h_
       have hji33v : (ji14) ≤ 64 → (IntKind.i64.wrap (2 ^ (ji14).toNat)) = ji33 := fun hle_ => by have h_ := hji33z hle_; rw [Int.one_mul] at h_; exact h_
       have hji33y : (wrap64 (1 * 2 ^ min (ji14).toNat 64)) = ji33 := (i64_w _).symm.trans hji33_
       have hji33x : (ji14) ≤ 64 → (wrap64 (1 * 2 ^ (ji14).toNat)) = ji33 := fun h_ => (i64_w _).symm.trans (hji33z h_)
       obtain ⟨y631, hy631⟩ : ∃ y_ : List Int, y_ = (x6_1.set ((ji11) : Int).toNat (wrap64 ((rd x6_1 (ji11)) + (ji33)))) := ⟨_, rfl⟩
       replace H : (zelligeref03_DivMod.l0 kj16 l0 l1 y631 t627 (wrap64 (x8_1 - 1))) = some (r1, r2) := by (rw [hy631]; with_reducible exact H)
       have Ny631 := am hy631
       clear hy631
       have H' := am H
       clear H
       obtain ⟨Ao35, co35, eo35⟩ := Kd.R_slice HO_7.out
       subst eo35
       go_wp2_with (first | ((with_reducible refine gate_callee (f := 18) rfl ?_); refine goesL_ (some 40) rfl rfl Try.func18 (by kernel_rfl) rfl #[.slice Ao35 x7_16.length co35, .slice A1 l1.length c1] rfl (by (try simp only [List.map_toArray, List.map_cons, List.map_nil]); rfl) ?_; (with_reducible refine (zelligeref03_Cmp.calls kj16 _ _ x7_16 _ _ l1 t626 _ ?side1 ?side2 ?side3 ?side4 A27.out).mono ?_); (case side1 => exact (Kd.R_reads' HO_7.out).2.2); (case side2 => exact (Kd.R_reads' HO_7.out).2.1); (case side3 => repeat (exact (Kd.C_below HR1.out HB.out))); (case side4 => exact HC1.out); rintro e w' ⟨rfl, ⟨nd, rfl⟩⟩; refine ⟨_, rfl, ?_⟩; (try (rw [drewN_self wc]; generalize hq_ : World.drewN wc _ = wc; have n0_ : Aside0 (Kd.R (Kd.int .i64) 3 wc w.heap.size (fun k_ => some k_ ≠ (.slice Ao35 x7_16.length co35 : Value).ownBlock) v608 x6_1) := ⟨by rw [← hq_]; exact (by (with_reducible repeat (apply Kd.R_drewN)); exact HO_6.out)⟩; have n1_ : Aside0 (Kd.R (Kd.int .i64) 3 wc w.heap.size (fun k_ => some k_ ≠ (v608 : Value).ownBlock) (.slice Ao35 x7_16.length co35) x7_16) := ⟨by rw [← hq_]; exact (by (with_reducible repeat (apply Kd.R_drewN)); exact HO_7.out)⟩; have n2_ : Aside0 (Below w.heap.size w wc) := ⟨by rw [← hq_]; exact (by repeat ((with_reducible first | exact HB.out | apply pw_below_drewN)))⟩; clear HO_6 HO_7 HB hq_; have HO_6 := n0_; have HO_7 := n1_; have HB := n2_; clear n0_ n1_ n2_))) | ((with_reducible refine gate_callee (f := 54) rfl ?_); refine goesL_ (some 44) rfl rfl Try.func54 (by kernel_rfl) rfl #[.slice Ao35 x7_16.length co35, .slice A1 l1.length c1] rfl (by (try simp only [List.map_toArray, List.map_cons, List.map_nil]); rfl) ?_; (with_reducible refine (zelligeref03_Sub.calls kj16 _ _ x7_16 _ _ l1 t627 _ ?side1 ?side2 ?side3 ?side4 A29.out).mono ?_); (case side1 => exact (Kd.R_reads' HO_7.out).2.2); (case side2 => exact (Kd.R_reads' HO_7.out).2.1); (case side3 => repeat (exact (Kd.C_below HR1.out HB.out))); (case side4 => exact HC1.out); rintro e w36 ⟨v628, rfl, ho0, hb⟩; refine ⟨_, rfl, ?_⟩; have HO629 := am (Kd.R_lower (Kd.R_new' (Kd.R_new' ho0 (Kd.R_lt HO_6.out)) (Kd.R_lt HO_7.out)) (below_size HB.out)); replace HO_6 := am (Kd.R_elder' HO_6.out (Kd.R_base ho0) hb); replace HO_7 := am (Kd.R_elder' HO_7.out (Kd.R_base ho0) hb); replace HB := am (below_step HB.out hb); (try clear hb); (try clear ho0); obtain ⟨Ao37, co37, eo37⟩ := Kd.R_slice HO_6.out; subst eo37; have p630 : 0 ≤ ((ji11) : Int) := of_decide_eq_true (by (with_reducible assumption)); have q630 : (ji11) < (x6_1.length : Int) := of_decide_eq_true (by (with_reducible assumption)); obtain ⟨ad630, e630, hx630_0⟩ := Kd.at_int (Kd.R_reads' HO_6.out).2.2 (ji11) p630 q630; cases e630; replace p630 := eq_true p630; replace q630 := eq_true q630; have p34 : 0 ≤ ((ji11) : Int) := of_decide_eq_true (by (with_reducible assumption)); have q34 : ((ji11) : Int) < ((x6_1.length : Int) : Int) := of_decide_eq_true (by (with_reducible assumption)); obtain ⟨go34, co34, eo34, gb34, gl34, cl34, HG34⟩ := Kd.R_form HO_6.out (by omega); (cases eo34); have GB34 := am gb34; have GG34 := am HG34; clear gb34 gl34 HG34; (simp only [add_plain] at hx630_0); obtain ⟨hx34_0, hf34_0⟩ := Kd.R_celln 0 HO_6.out ((ji11) : Int) p34 q34; replace p34 := eq_true p34; replace q34 := eq_true q34; obtain ⟨hy38_, hz38_⟩ := Kd.R_celln 0 HO_6.out ((ji11) : Int) (of_decide_eq_true (by (with_reducible assumption))) (of_decide_eq_true (by (with_reducible assumption))); have HP38 := Kd.R_putg HO_6.out ((ji11) : Int) (wrap64 ((rd x6_1 (ji11)) + (ji33)))) | ((with_reducible refine gate_store (t := 3) (p := 58) rfl ?_); refine store_event (t := 3) (p := 58) (v := ?vo_w39) (w1 := (w36.setCell ⟨go34, ((ji11) : Int).toNat, none⟩ (.int .i64 (wrap64 ((rd x6_1 (ji11)) + (ji33)))))) ?hg ?ho ?hn ?hr ?_; (case ho => rfl); (case hg => rfl); (case hn => rfl); (case hr => (go_simp; done)); intro w39 hw; have hg : w36.grownBy w39 (some go34) := (by rw [hw]; exact HP38.2); have hp_ : Kd.R (Kd.int .i64) 3 w39 w.heap.size (fun k_ => some k_ ≠ (.slice Ao35 x7_16.length co35 : Value).ownBlock ∧ some k_ ≠ (v628 : Value).ownBlock) (.slice (some ⟨go34, 0, none⟩) x6_1.length co37) y631 := (by rw [hw, Ny631.out]; exact HP38.1); clear HP38; replace HO_6 := am (hp_); replace HO_7 := am (Kd.R_after (v := (.slice (some ⟨go34, 0, none⟩) x6_1.length co37)) (v1 := (.slice (some ⟨go34, 0, none⟩) x6_1.length co37)) (ok := (fun k_ => some k_ ≠ (v628 : Value).ownBlock)) (by exact Kd.R_mono HO_7.out (fun _ hk => ⟨hk.2, hk.1⟩)) hg (.inl rfl)); replace HO629 := am (Kd.R_after (v := (.slice (some ⟨go34, 0, none⟩) x6_1.length co37)) (v1 := (.slice (some ⟨go34, 0, none⟩) x6_1.length co37)) (ok := (fun k_ => some k_ ≠ (.slice Ao35 x7_16.length co35 : Value).ownBlock)) (by exact Kd.R_mono HO629.out (fun _ hk => ⟨hk.2, hk.1.2⟩)) hg (.inl rfl)); replace HB := am ((by rw [hw]; exact below_set (HB.out) GB34.out : Below w.heap.size w w39)); clear hg hw hp_))
       go_roundg kj16
       case measure => have := HK1.out; have := HJ16.out; omega
       case rel => exact ⟨(y631), (t627), (wrap64 (x8_1 - 1)), (by rfl), H', ⟨by have := HK1.out; have := HJ16.out; omega⟩, ⟨by exact Kd.R_mono HO_6.out (fun _ hk => hk.2)⟩, ⟨by exact Kd.R_mono HO629.out (fun _ hk => hk.2)⟩, ⟨by with_reducible exact HB.out⟩⟩
      ·
       rw [if_neg c28] at H
       have c28b0 : decide (0 ≤ t626) = false := decide_eq_false c28
       clear c28
       have H' := am H
       clear H
       obtain ⟨Ao40, co40, eo40⟩ := Kd.R_slice HO_7.out
       subst eo40
       go_wp2_with (((with_reducible refine gate_callee (f := 18) rfl ?_); refine goesL_ (some 40) rfl rfl Try.func18 (by kernel_rfl) rfl #[.slice Ao40 x7_16.length co40, .slice A1 l1.length c1] rfl (by (try simp only [List.map_toArray, List.map_cons, List.map_nil]); rfl) ?_; (with_reducible refine (zelligeref03_Cmp.calls kj16 _ _ x7_16 _ _ l1 t626 _ ?side1 ?side2 ?side3 ?side4 A27.out).mono ?_); (case side1 => exact (Kd.R_reads' HO_7.out).2.2); (case side2 => exact (Kd.R_reads' HO_7.out).2.1); (case side3 => repeat (exact (Kd.C_below HR1.out HB.out))); (case side4 => exact HC1.out); rintro e w' ⟨rfl, ⟨nd, rfl⟩⟩; refine ⟨_, rfl, ?_⟩))
       go_roundg kj16
       case measure => have := HK1.out; have := HJ16.out; omega
       case rel => exact ⟨(x6_1), (x7_16), (wrap64 (x8_1 - 1)), (by rfl), H', ⟨by have := HK1.out; have := HJ16.out; omega⟩, ⟨by (with_reducible repeat (apply Kd.R_drewN)); exact HO_6.out⟩, ⟨by (with_reducible repeat (apply Kd.R_drewN)); exact HO_7.out⟩, ⟨by repeat ((with_reducible first | exact HB.out | apply pw_below_drewN))⟩⟩
   ·
    rw [if_neg c9] at H
    have c9b0 : decide (0 ≤ x8_1) = false := decide_eq_false c9
    clear c9
    obtain ⟨t613, A41, H⟩ := bindE H
    simp only [Option.some.injEq, Prod.mk.injEq] at H
    obtain ⟨rfl, rfl⟩ := H
    obtain ⟨Ao42, co42, eo42⟩ := Kd.R_slice HO_6.out
    subst eo42
    go_wp2_with (((with_reducible refine gate_callee (f := 64) rfl ?_); refine goesL_ (some 60) rfl rfl Try.func64 (by kernel_rfl) rfl #[.slice Ao42 x6_1.length co42] rfl (by (try simp only [List.map_toArray, List.map_cons, List.map_nil]); rfl) ?_; (with_reducible refine (zelligeref03_Trim_own.calls k1 (fun k_ => some k_ = (.slice Ao42 x6_1.length co42 : Value).ownBlock) (.slice Ao42 x6_1.length co42) x6_1 t613 w _ ?side1 ?side2 A41.out).mono ?_); (case side1 => repeat ((with_reducible exact HB.out))); (case side2 => exact Kd.R_tight rfl HO_6.out); rintro e w43 ⟨v614, rfl, ho0, hb, hkp⟩; refine ⟨_, rfl, ?_⟩; have HO615 := am (Kd.R_mono (ok' := fun k_ => some k_ ≠ (u7 : Value).ownBlock) ho0 (fun k_ hk_ => Or.elim hk_ (fun hs_ => fun e_ => (((HO_7.out).1 k_ e_.symm)) hs_) (fun hn_ => (Kd.fresh' (Kd.R_lt HO_7.out) k_ hn_)))); replace HO_7 := am (Kd.R_mono (ok' := fun k_ => some k_ ≠ (v614 : Value).ownBlock) (Kd.R_keptB (HO_7.out) hkp (fun k_ hk_ hs_ => (hk_) hs_)) (fun k_ hk_ => fun e_ => Or.elim (ho0.1 k_ e_.symm) (fun hs_ => hk_.2.1 hs_) (fun hn_ => Nat.not_le.2 hk_.2.2 hn_))); replace HB := am (hb); clear HO_6; (try clear hb); (try clear hkp); (try clear ho0)))
    go_ret2
    exact ⟨_, _, by rfl, by exact HO615.out, by exact HO_7.out, by with_reducible exact HB.out⟩

end Go.Proofs.Ytmfmojldebhboaa.ZWhole
