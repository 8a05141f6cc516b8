-- printed by zprint.py, a program of this session's
import Derived.Test.YtmfmojldebhboaaZWhole0
import Derived.Test.YtmfmojldebhboaaZWholegCore
import Derived.Test.YtmfmojldebhboaaZWholegOff
namespace Go.Proofs.Ytmfmojldebhboaa.ZWhole
open Go.RowKit Go.Proofs.YtmfmojldebhboaaW.PrintWords Go.Proofs.YtmfmojldebhboaaW.PrintLast Go.Proofs.YtmfmojldebhboaaW.PrintMore
set_option linter.unusedVariables false
set_option linter.unusedSimpArgs false

/-! ### nat_long: function 96 -/
mutual
def nat_long.l0 : Nat → Int → List Int → List Int → Int → List Int → Int → Int → Int → Option (List Int × List Int)
 | 0, _, _, _, _, _, _, _, _ => none
 | k + 1, x6, x7, x8, x9, x10, x11, x12, x13 => if x13 ≥ 0 then (if 0 ≤ x13 then (if x13 ≤ (wrap64 ((wrap64 (x13 + x9)) + 1)) then (if (wrap64 ((wrap64 (x13 + x9)) + 1)) ≤ (x7.length : Int) then ((nat_guess.f k ((x7.take ((wrap64 ((wrap64 (x13 + x9)) + 1)) : Int).toNat).drop (x13 : Int).toNat) x11 x12).bind fun t244 => ((nat_offX.f k x7 x13 (wrap64 ((wrap64 (x13 + x9)) + 1)) x8 t244).bind fun bt245 => (if bt245.1 = true then ((nat_backX.f k bt245.2 x13 (wrap64 ((wrap64 (x13 + x9)) + 1)) x8).bind fun t247 => (if x13 < (x10.length : Int) then (nat_long.l0 k x6 t247 x8 x9 (x10.set (x13 : Int).toNat ((IntKind.u64.wrap (t244 - 1)) % 4294967296)) x11 x12 (wrap64 (x13 - 1))) else (none))) else (if x13 < (x10.length : Int) then (nat_long.l0 k x6 bt245.2 x8 x9 (x10.set (x13 : Int).toNat ((t244) % 4294967296)) x11 x12 (wrap64 (x13 - 1))) else (none))))) else (none)) else (none)) else (none)) else ((nat_trim_own.f k x7).bind fun t250 => (nat_long.l1 k x6 x10 t250 0 (wrap64 ((t250.length : Int) - 1))))
def nat_long.l1 : Nat → Int → List Int → List Int → Int → Int → Option (List Int × List Int)
 | 0, _, _, _, _, _ => none
 | k + 1, x6, x10, x16, x17, x18 => if x18 ≥ 0 then (if 0 ≤ x18 then (if x18 < (x16.length : Int) then (if 0 ≤ x6 then (nat_long.l1 k x6 x10 (x16.set (x18 : Int).toNat ((shr .u64 (Go.bits .or .u64 (IntKind.u64.wrap (x17 * 4294967296)) (IntKind.u64.wrap (rd x16 x18))) x6) % 4294967296)) (Go.bits .or .u64 (IntKind.u64.wrap (x17 * 4294967296)) (IntKind.u64.wrap (rd x16 x18))) (wrap64 (x18 - 1))) else (none)) else (none)) else (none)) else ((nat_trim_own.f k x10).bind fun t255 => ((nat_trim_own.f k x16).bind fun t258 => (some (t255, t258))))
end
def nat_long.f (k : Nat) (l0 : List Int) (l1 : List Int) : Option (List Int × List Int) := if 0 ≤ (wrap64 ((l1.length : Int) - 1)) then (if (wrap64 ((l1.length : Int) - 1)) < (l1.length : Int) then ((bits_LeadingZeros32.f (rd l1 (wrap64 ((l1.length : Int) - 1)))).bind fun t225 => ((nat_shift.f k l0 t225).bind fun t226 => ((nat_shift.f k l1 t225).bind fun t229 => ((nat_trim_own.f k t229).bind fun t232 => (if 0 ≤ (wrap64 ((t226.length : Int) - (t232.length : Int))) then (if (wrap64 ((t226.length : Int) - (t232.length : Int)) : Int).toNat ≤ 70368744177664 then ((some (List.replicate (wrap64 ((t226.length : Int) - (t232.length : Int)) : Int).toNat 0 : List Int)).bind fun y235 => (if 0 ≤ (wrap64 ((t232.length : Int) - 1)) then (if (wrap64 ((t232.length : Int) - 1)) < (t232.length : Int) then (if 0 ≤ (wrap64 ((t232.length : Int) - 2)) then (if (wrap64 ((t232.length : Int) - 2)) < (t232.length : Int) then (nat_long.l0 k t225 t226 t232 (t232.length : Int) y235 (IntKind.u64.wrap (rd t232 (wrap64 ((t232.length : Int) - 1)))) (IntKind.u64.wrap (rd t232 (wrap64 ((t232.length : Int) - 2)))) (wrap64 ((y235.length : Int) - 1))) else (none)) else (none)) else (none)) else (none))) else (none)) else (none)))))) else (none)) else (none)
theorem nat_long.mono_l : ∀ k, (∀ y0 y1 y2 y3 y4 y5 y6 y7, LeO (nat_long.l0 k y0 y1 y2 y3 y4 y5 y6 y7) (nat_long.l0 (k + 1) y0 y1 y2 y3 y4 y5 y6 y7)) ∧ (∀ y0 y1 y2 y3 y4, LeO (nat_long.l1 k y0 y1 y2 y3 y4) (nat_long.l1 (k + 1) y0 y1 y2 y3 y4))
 | 0 => ⟨fun _ _ _ _ _ _ _ _ r h => by simp [nat_long.l0] at h, fun _ _ _ _ _ r h => by simp [nat_long.l1] at h⟩
 | k + 1 => by
  obtain ⟨ih0, ih1⟩ := nat_long.mono_l k
  refine ⟨?_, ?_⟩
  ·
   intro y0 y1 y2 y3 y4 y5 y6 y7
   unfold nat_long.l0
   repeat' first
   | (with_reducible exact ih0 _ _ _ _ _ _ _ _)
   | (with_reducible exact ih1 _ _ _ _ _)
   | (with_reducible exact nat_backX.mono _ _ _ _ _)
   | (with_reducible exact nat_guess.mono _ _ _ _)
   | (with_reducible exact nat_offX.mono _ _ _ _ _ _)
   | (with_reducible exact nat_trim_own.mono _ _)
   | (with_reducible exact LeO.refl _)
   | (with_reducible refine LeO.ite ?_ ?_)
   | (with_reducible refine LeO.bind ?_ (fun _ => ?_))
  ·
   intro y0 y1 y2 y3 y4
   unfold nat_long.l1
   repeat' first
   | (with_reducible exact ih1 _ _ _ _ _)
   | (with_reducible exact nat_trim_own.mono _ _)
   | (with_reducible exact LeO.refl _)
   | (with_reducible refine LeO.ite ?_ ?_)
   | (with_reducible refine LeO.bind ?_ (fun _ => ?_))
theorem nat_long.mono : ∀ a0 a1 k, LeO (nat_long.f k a0 a1) (nat_long.f (k + 1) a0 a1) := by
 intro a0 a1 k
 obtain ⟨ih0, ih1⟩ := nat_long.mono_l k
 unfold nat_long.f
 repeat' first
   | (with_reducible exact ih0 _ _ _ _ _ _ _ _)
   | (with_reducible exact nat_shift.mono _ _ _)
   | (with_reducible exact nat_trim_own.mono _ _)
   | (with_reducible exact LeO.refl _)
   | (with_reducible refine LeO.ite ?_ ?_)
   | (with_reducible refine LeO.bind ?_ (fun _ => ?_))
set_option maxHeartbeats 8000000 in
set_option maxRecDepth 100000 in
theorem nat_long.calls (k : Nat) (A0 : Option Addr) (c0 : Nat) (l0 : List Int) (A1 : Option Addr) (c1 : Nat) (l1 : List Int) (r1 : List Int) (r2 : List Int) (w : World) (hr0 : Kd.C (Kd.int .u32) w A0 l0.length l0) (hc0 : l0.length ≤ c0) (hr1 : Kd.C (Kd.int .u32) w A1 l1.length l1) (hc1 : l1.length ≤ c1) (h : nat_long.f k l0 l1 = some (r1, r2)) :
  Calls Try.prog 96 #[.slice A0 l0.length c0, .slice A1 l1.length c1] w fun e w' => ∃ v0_ v1_ : Value, e = .returned (.tuple #[v0_, v1_]) ∧ Kd.R (Kd.int .u32) 78 w' w.heap.size (fun k_ => some k_ ≠ (v1_ : Value).ownBlock) v0_ r1 ∧ Kd.R (Kd.int .u32) 78 w' w.heap.size (fun k_ => some k_ ≠ (v0_ : Value).ownBlock) v1_ r2 ∧ Below w.heap.size w w' := by
 have HR0 := am hr0
 have HC0 := am hc0
 clear hr0 hc0
 have HR1 := am hr1
 have HC1 := am hc1
 clear hr1 hc1
 have HB := am (Below.refl w.heap.size w)
 have H : (if 0 ≤ (wrap64 ((l1.length : Int) - 1)) then (if (wrap64 ((l1.length : Int) - 1)) < (l1.length : Int) then ((bits_LeadingZeros32.f (rd l1 (wrap64 ((l1.length : Int) - 1)))).bind fun t225 => ((nat_shift.f k l0 t225).bind fun t226 => ((nat_shift.f k l1 t225).bind fun t229 => ((nat_trim_own.f k t229).bind fun t232 => (if 0 ≤ (wrap64 ((t226.length : Int) - (t232.length : Int))) then (if (wrap64 ((t226.length : Int) - (t232.length : Int)) : Int).toNat ≤ 70368744177664 then ((some (List.replicate (wrap64 ((t226.length : Int) - (t232.length : Int)) : Int).toNat 0 : List Int)).bind fun y235 => (if 0 ≤ (wrap64 ((t232.length : Int) - 1)) then (if (wrap64 ((t232.length : Int) - 1)) < (t232.length : Int) then (if 0 ≤ (wrap64 ((t232.length : Int) - 2)) then (if (wrap64 ((t232.length : Int) - 2)) < (t232.length : Int) then (nat_long.l0 k t225 t226 t232 (t232.length : Int) y235 (IntKind.u64.wrap (rd t232 (wrap64 ((t232.length : Int) - 1)))) (IntKind.u64.wrap (rd t232 (wrap64 ((t232.length : Int) - 2)))) (wrap64 ((y235.length : Int) - 1))) else (none)) else (none)) else (none)) else (none))) else (none)) else (none)))))) else (none)) else (none)) = some (r1, r2) := h
 clear h
 obtain ⟨ji3, hji3⟩ : ∃ j_ : Int, (wrap64 ((l1.length : Int) - 1)) = j_ := ⟨_, rfl⟩
 replace H : (if 0 ≤ (ji3) then (if (ji3) < (l1.length : Int) then ((bits_LeadingZeros32.f (rd l1 (ji3))).bind fun t225 => ((nat_shift.f k l0 t225).bind fun t226 => ((nat_shift.f k l1 t225).bind fun t229 => ((nat_trim_own.f k t229).bind fun t232 => (if 0 ≤ (wrap64 ((t226.length : Int) - (t232.length : Int))) then (if (wrap64 ((t226.length : Int) - (t232.length : Int)) : Int).toNat ≤ 70368744177664 then ((some (List.replicate (wrap64 ((t226.length : Int) - (t232.length : Int)) : Int).toNat 0 : List Int)).bind fun y235 => (if 0 ≤ (wrap64 ((t232.length : Int) - 1)) then (if (wrap64 ((t232.length : Int) - 1)) < (t232.length : Int) then (if 0 ≤ (wrap64 ((t232.length : Int) - 2)) then (if (wrap64 ((t232.length : Int) - 2)) < (t232.length : Int) then (nat_long.l0 k t225 t226 t232 (t232.length : Int) y235 (IntKind.u64.wrap (rd t232 (wrap64 ((t232.length : Int) - 1)))) (IntKind.u64.wrap (rd t232 (wrap64 ((t232.length : Int) - 2)))) (wrap64 ((y235.length : Int) - 1))) else (none)) else (none)) else (none)) else (none))) else (none)) else (none)))))) else (none)) else (none)) = some (r1, r2) := by (rw [hji3] at H; exact H)
 have hji3w : (IntKind.i64.wrap ((l1.length : Int) - 1)) = ji3 := (i64_w _).trans hji3
 obtain ⟨c4, H⟩ := iteS H
 have c4b0 : decide (0 ≤ (ji3)) = true := decide_eq_true c4
 clear c4
 obtain ⟨c5, H⟩ := iteS H
 have c5b0 : decide ((ji3) < (l1.length : Int)) = true := decide_eq_true c5
 clear c5
 obtain ⟨t225, A6, H⟩ := bindE H
 obtain ⟨t226, A7, H⟩ := bindE H
 obtain ⟨t229, A8, H⟩ := bindE H
 obtain ⟨t232, A9, H⟩ := bindE H
 obtain ⟨ji10, hji10⟩ : ∃ j_ : Int, (wrap64 ((t226.length : Int) - (t232.length : Int))) = j_ := ⟨_, rfl⟩
 replace H : (if 0 ≤ (ji10) then (if (ji10 : Int).toNat ≤ 70368744177664 then ((some (List.replicate (ji10 : Int).toNat 0 : List Int)).bind fun y235 => (if 0 ≤ (wrap64 ((t232.length : Int) - 1)) then (if (wrap64 ((t232.length : Int) - 1)) < (t232.length : Int) then (if 0 ≤ (wrap64 ((t232.length : Int) - 2)) then (if (wrap64 ((t232.length : Int) - 2)) < (t232.length : Int) then (nat_long.l0 k t225 t226 t232 (t232.length : Int) y235 (IntKind.u64.wrap (rd t232 (wrap64 ((t232.length : Int) - 1)))) (IntKind.u64.wrap (rd t232 (wrap64 ((t232.length : Int) - 2)))) (wrap64 ((y235.length : Int) - 1))) else (none)) else (none)) else (none)) else (none))) else (none)) else (none)) = some (r1, r2) := by (rw [hji10] at H; exact H)
 have hji10w : (IntKind.i64.wrap ((t226.length : Int) - (t232.length : Int))) = ji10 := (i64_w _).trans hji10
 obtain ⟨c11, H⟩ := iteS H
 have c11b0 := eq_true c11
 have c11b1 : decide (0 ≤ (ji10)) = true := decide_eq_true c11
 clear c11
 obtain ⟨c12, H⟩ := iteS H
 have c12b0 := eq_true c12
 have c12b1 : decide ((ji10 : Int).toNat ≤ 70368744177664) = true := decide_eq_true c12
 clear c12
 obtain ⟨y235, hy235⟩ : ∃ y_ : List Int, y_ = (List.replicate (ji10 : Int).toNat 0) := ⟨_, rfl⟩
 replace H : (if 0 ≤ (wrap64 ((t232.length : Int) - 1)) then (if (wrap64 ((t232.length : Int) - 1)) < (t232.length : Int) then (if 0 ≤ (wrap64 ((t232.length : Int) - 2)) then (if (wrap64 ((t232.length : Int) - 2)) < (t232.length : Int) then (nat_long.l0 k t225 t226 t232 (t232.length : Int) y235 (IntKind.u64.wrap (rd t232 (wrap64 ((t232.length : Int) - 1)))) (IntKind.u64.wrap (rd t232 (wrap64 ((t232.length : Int) - 2)))) (wrap64 ((y235.length : Int) - 1))) else (none)) else (none)) else (none)) else (none)) = some (r1, r2) := by (have H2_ := (Option.bind_some _ _).symm.trans H; rw [hy235]; with_reducible exact H2_)
 have Ny235 := am hy235
 clear hy235
 obtain ⟨ji13, hji13⟩ : ∃ j_ : Int, (wrap64 ((t232.length : Int) - 1)) = j_ := ⟨_, rfl⟩
 replace H : (if 0 ≤ (ji13) then (if (ji13) < (t232.length : Int) then (if 0 ≤ (wrap64 ((t232.length : Int) - 2)) then (if (wrap64 ((t232.length : Int) - 2)) < (t232.length : Int) then (nat_long.l0 k t225 t226 t232 (t232.length : Int) y235 (IntKind.u64.wrap (rd t232 (ji13))) (IntKind.u64.wrap (rd t232 (wrap64 ((t232.length : Int) - 2)))) (wrap64 ((y235.length : Int) - 1))) else (none)) else (none)) else (none)) else (none)) = some (r1, r2) := by (rw [hji13] at H; exact H)
 have hji13w : (IntKind.i64.wrap ((t232.length : Int) - 1)) = ji13 := (i64_w _).trans hji13
 obtain ⟨c14, H⟩ := iteS H
 have c14b0 : decide (0 ≤ (ji13)) = true := decide_eq_true c14
 clear c14
 obtain ⟨c15, H⟩ := iteS H
 have c15b0 : decide ((ji13) < (t232.length : Int)) = true := decide_eq_true c15
 clear c15
 obtain ⟨ji16, hji16⟩ : ∃ j_ : Int, (wrap64 ((t232.length : Int) - 2)) = j_ := ⟨_, rfl⟩
 replace H : (if 0 ≤ (ji16) then (if (ji16) < (t232.length : Int) then (nat_long.l0 k t225 t226 t232 (t232.length : Int) y235 (IntKind.u64.wrap (rd t232 (ji13))) (IntKind.u64.wrap (rd t232 (ji16))) (wrap64 ((y235.length : Int) - 1))) else (none)) else (none)) = some (r1, r2) := by (rw [hji16] at H; exact H)
 have hji16w : (IntKind.i64.wrap ((t232.length : Int) - 2)) = ji16 := (i64_w _).trans hji16
 obtain ⟨c17, H⟩ := iteS H
 have c17b0 : decide (0 ≤ (ji16)) = true := decide_eq_true c17
 clear c17
 obtain ⟨c18, H⟩ := iteS H
 have c18b0 : decide ((ji16) < (t232.length : Int)) = true := decide_eq_true c18
 clear c18
 have H' := am H
 clear H
 have p224 : 0 ≤ ((ji3) : Int) := of_decide_eq_true (by (with_reducible assumption))
 have q224 : (ji3) < (l1.length : Int) := of_decide_eq_true (by (with_reducible assumption))
 obtain ⟨ad224, e224, hx224_0⟩ := Kd.at_int HR1.out (ji3) p224 q224
 cases e224
 replace p224 := eq_true p224
 replace q224 := eq_true q224
 go_enter Try.func96, Try.ntmps96
 go_wp2_with (first | (go_at_call 114; (with_reducible refine (bits_LeadingZeros32.calls (rd l1 (ji3)) t225 _ A6.out).mono ?_); rintro e w' ⟨rfl, ⟨nd, rfl⟩⟩) | (go_at_call 115; (with_reducible refine (nat_shift.calls k _ _ l0 t225 t226 _ ?side1 ?side2 A7.out).mono ?_); (case side1 => exact HR0.out); (case side2 => exact HC0.out); rintro e w19 ⟨v227, rfl, ho0, hb⟩; have HO228 := am (Kd.R_lower ho0 (below_size (by repeat ((with_reducible first | exact HB.out | apply pw_below_drewN))))); replace HB := am (below_step (by repeat ((with_reducible first | exact HB.out | apply pw_below_drewN))) hb); (try clear hb); (try clear ho0)) | (go_at_call 115; (with_reducible refine (nat_shift.calls k _ _ l1 t225 t229 _ ?side1 ?side2 A8.out).mono ?_); (case side1 => repeat (exact (Kd.C_below HR1.out HB.out))); (case side2 => exact HC1.out); rintro e w20 ⟨v230, rfl, ho0, hb⟩; have HO231 := am (Kd.R_lower (Kd.R_new' ho0 (Kd.R_lt HO228.out)) (below_size HB.out)); replace HO228 := am (Kd.R_elder' HO228.out (Kd.R_base ho0) hb); replace HB := am (below_step HB.out hb); (try clear hb); (try clear ho0); obtain ⟨Ao21, co21, eo21⟩ := Kd.R_slice HO231.out; subst eo21) | (go_at_call 79; (with_reducible refine (nat_trim_own.calls k (fun k_ => some k_ = (.slice Ao21 t229.length co21 : Value).ownBlock) (.slice Ao21 t229.length co21) t229 t232 w _ ?side1 ?side2 A9.out).mono ?_); (case side1 => repeat ((with_reducible exact HB.out))); (case side2 => exact Kd.R_tight rfl HO231.out); rintro e w22 ⟨v233, rfl, ho0, hb, hkp⟩; have HO234 := am (Kd.R_mono (ok' := fun k_ => some k_ ≠ (v227 : Value).ownBlock) ho0 (fun k_ hk_ => Or.elim hk_ (fun hs_ => fun e_ => (((HO228.out).1 k_ e_.symm).2) hs_) (fun hn_ => (Kd.fresh' (Kd.R_lt HO228.out) k_ hn_)))); replace HO228 := am (Kd.R_mono (ok' := fun k_ => some k_ ≠ (v233 : Value).ownBlock) (Kd.R_keptB (HO228.out) hkp (fun k_ hk_ hs_ => (hk_.2) hs_)) (fun k_ hk_ => fun e_ => Or.elim (ho0.1 k_ e_.symm) (fun hs_ => hk_.2.1 hs_) (fun hn_ => Nat.not_le.2 hk_.2.2 hn_))); replace HB := am (hb); clear HO231; (try clear hb); (try clear hkp); (try clear ho0); obtain ⟨Ao23, co23, eo23⟩ := Kd.R_slice HO234.out; subst eo23; obtain ⟨Ao24, co24, eo24⟩ := Kd.R_slice HO228.out; subst eo24) | ((with_reducible refine gate_dst (N := 39) rfl ?_); refine Kd.R_make (Kd.int .u32) _ 78 rfl (N := 39) rfl 23 _ _ rfl ji10 rfl rfl Try.underlying23 (.int .u32 0) 4 info78 rfl (by decide) (by omega) 0 (ok := fun _ => True) (okp := fun _ => True) rfl (fun _ hk => hk) trivial (of_decide_eq_true (by (with_reducible assumption))) (Nat.le_trans (Nat.mul_le_mul_right _ (of_decide_eq_true (by (with_reducible assumption)) : ji10.toNat ≤ 70368744177664)) (by omega)) (Below.refl _ _) (Nat.le_refl _) ?_; intro v236 w25 ho26 hb hg_ hnew_; clear hg_ hnew_; (rw [← Ny235.out] at ho26); have HO237 := am (Kd.R_lower (Kd.R_new' (Kd.R_new' ho26 (Kd.R_lt HO228.out)) (Kd.R_lt HO234.out)) (below_size HB.out)); replace HO228 := am (Kd.R_elder' HO228.out (Kd.R_base ho26) hb); replace HO234 := am (Kd.R_elder' HO234.out (Kd.R_base ho26) hb); replace HB := am (below_step HB.out hb); clear hb ho26; have p238 : 0 ≤ ((ji13) : Int) := of_decide_eq_true (by (with_reducible assumption)); have q238 : (ji13) < (t232.length : Int) := of_decide_eq_true (by (with_reducible assumption)); obtain ⟨ad238, e238, hx238_0⟩ := Kd.at_int (Kd.R_reads' HO234.out).2.2 (ji13) p238 q238; cases e238; replace p238 := eq_true p238; replace q238 := eq_true q238; have p239 : 0 ≤ ((ji16) : Int) := of_decide_eq_true (by (with_reducible assumption)); have q239 : (ji16) < (t232.length : Int) := of_decide_eq_true (by (with_reducible assumption)); obtain ⟨ad239, e239, hx239_0⟩ := Kd.at_int (Kd.R_reads' HO234.out).2.2 (ji16) p239 q239; obtain rfl : ad238 = ad239 := (by injection e239); replace p239 := eq_true p239; replace q239 := eq_true q239; obtain ⟨Ao27, co27, eo27⟩ := Kd.R_slice HO237.out; subst eo27))
 repeat (go_quiet (fail); try go_wp2_with (fail))
 go_loopg [13] k (fun kq v13 w' => ∃ (x7_1 : List Int) (x8_1 : List Int) (x10_1 : List Int) (x13_1 : Int), v13 = .int .i64 x13_1 ∧ Aside0 (nat_long.l0 kq t225 x7_1 x8_1 (t232.length : Int) x10_1 (IntKind.u64.wrap (rd t232 (ji13))) (IntKind.u64.wrap (rd t232 (ji16))) x13_1 = some (r1, r2)) ∧ Aside0 (kq ≤ k) ∧ Aside0 (Kd.R (Kd.int .u32) 78 w' w.heap.size (fun k_ => some k_ ≠ ((.slice (some ad238) t232.length co23) : Value).ownBlock ∧ some k_ ≠ ((.slice Ao27 y235.length co27) : Value).ownBlock) (.slice Ao24 t226.length co24) x7_1) ∧ Aside0 (Kd.R (Kd.int .u32) 78 w' w.heap.size (fun k_ => some k_ ≠ ((.slice Ao24 t226.length co24) : Value).ownBlock ∧ some k_ ≠ ((.slice Ao27 y235.length co27) : Value).ownBlock) (.slice (some ad238) t232.length co23) x8_1) ∧ Aside0 (Kd.R (Kd.int .u32) 78 w' w.heap.size (fun k_ => some k_ ≠ ((.slice Ao24 t226.length co24) : Value).ownBlock ∧ some k_ ≠ ((.slice (some ad238) t232.length co23) : Value).ownBlock) (.slice Ao27 y235.length co27) x10_1) ∧ Aside0 (Below w.heap.size w w'))
 case atStart => exact ⟨(t226), (t232), (y235), (wrap64 ((y235.length : Int) - 1)), (by rfl), H', ⟨Nat.le_refl _⟩, ⟨by (with_reducible repeat (apply Kd.R_drewN)); exact HO228.out⟩, ⟨by (with_reducible repeat (apply Kd.R_drewN)); exact HO234.out⟩, ⟨by (with_reducible repeat (apply Kd.R_drewN)); exact Kd.R_mono HO237.out (fun _ hk => ⟨hk.1.2, hk.2⟩)⟩, ⟨by repeat ((with_reducible first | exact HB.out | apply pw_below_drewN))⟩⟩
 case round =>
  clear H'
  try clear c4b0
  try clear c5b0
  try clear c11b0
  try clear c11b1
  try clear c12b0
  try clear c12b1
  try clear c14b0
  try clear c15b0
  try clear c17b0
  try clear c18b0
  try clear hx224_0
  try clear hx238_0
  try clear hx239_0
  try clear p224
  try clear p238
  try clear p239
  try clear q224
  try clear q238
  try clear q239
  obtain ⟨x7_1, x8_1, x10_1, x13_1, rfl, HA, HK1, HO_7, HO_8, HO_10, HB⟩ := hrel
  have hl7_1 := (Kd.R_reads' HO_7.out).1
  rw [hl7_1] at HO_7
  (try simp only [hl7_1])
  (try simp only [hl7_1] at HO_8)
  (try simp only [hl7_1] at HO_10)
  have hl8_1 := (Kd.R_reads' HO_8.out).1
  rw [hl8_1] at HO_8
  (try simp only [hl8_1])
  (try simp only [hl8_1] at HO_7)
  (try simp only [hl8_1] at HO_10)
  have hl10_1 := (Kd.R_reads' HO_10.out).1
  rw [hl10_1] at HO_10
  (try simp only [hl10_1])
  (try simp only [hl10_1] at HO_7)
  (try simp only [hl10_1] at HO_8)
  cases gk with
  | zero => exact absurd HA.out (by simp [nat_long.l0])
  | succ k1 =>
   have H := HA.out
   clear HA
   simp only [nat_long.l0] at H
   by_cases c28 : x13_1 ≥ 0
   ·
    rw [if_pos c28] at H
    have c28b0 : decide (0 ≤ x13_1) = true := decide_eq_true c28
    clear c28
    obtain ⟨c29, H⟩ := iteS H
    have c29b0 := eq_true c29
    have c29b1 : decide (0 ≤ x13_1) = true := decide_eq_true c29
    clear c29
    obtain ⟨c30, H⟩ := iteS H
    have c30b0 := eq_true c30
    have c30b1 : decide (x13_1 ≤ (wrap64 ((wrap64 (x13_1 + (t232.length : Int))) + 1))) = true := decide_eq_true c30
    obtain ⟨c31, H⟩ := iteS H
    have c31b0 := eq_true c31
    have c31b1 : decide ((wrap64 ((wrap64 (x13_1 + (t232.length : Int))) + 1)) ≤ (x7_1.length : Int)) = true := decide_eq_true c31
    obtain ⟨y240, hy240⟩ : ∃ y_ : List Int, y_ = ((x7_1.take ((wrap64 ((wrap64 (x13_1 + (t232.length : Int))) + 1)) : Int).toNat).drop (x13_1 : Int).toNat) := ⟨_, rfl⟩
    replace H : ((nat_guess.f k1 y240 (IntKind.u64.wrap (rd t232 (ji13))) (IntKind.u64.wrap (rd t232 (ji16)))).bind fun t244 => ((nat_offX.f k1 x7_1 x13_1 (wrap64 ((wrap64 (x13_1 + (t232.length : Int))) + 1)) x8_1 t244).bind fun bt245 => (if bt245.1 = true then ((nat_backX.f k1 bt245.2 x13_1 (wrap64 ((wrap64 (x13_1 + (t232.length : Int))) + 1)) x8_1).bind fun t247 => (if x13_1 < (x10_1.length : Int) then (nat_long.l0 k1 t225 t247 x8_1 (t232.length : Int) (x10_1.set (x13_1 : Int).toNat ((IntKind.u64.wrap (t244 - 1)) % 4294967296)) (IntKind.u64.wrap (rd t232 (ji13))) (IntKind.u64.wrap (rd t232 (ji16))) (wrap64 (x13_1 - 1))) else (none))) else (if x13_1 < (x10_1.length : Int) then (nat_long.l0 k1 t225 bt245.2 x8_1 (t232.length : Int) (x10_1.set (x13_1 : Int).toNat ((t244) % 4294967296)) (IntKind.u64.wrap (rd t232 (ji13))) (IntKind.u64.wrap (rd t232 (ji16))) (wrap64 (x13_1 - 1))) else (none))))) = some (r1, r2) := by (rw [hy240]; with_reducible exact H)
    have Ny240 := am hy240
    clear hy240
    obtain ⟨t244, A32, H⟩ := bindE H
    obtain ⟨⟨t245, t246⟩, A33, H⟩ := bindE H
    dsimp only at H
    by_cases c34 : t245 = true
    ·
     subst c34
     rw [if_pos rfl] at H
     obtain ⟨t247, A35, H⟩ := bindE H
     obtain ⟨c36, H⟩ := iteS H
     have c36b0 : decide (x13_1 < (x10_1.length : Int)) = true := decide_eq_true c36
     clear c36
     obtain ⟨y248, hy248⟩ : ∃ y_ : List Int, y_ = (x10_1.set (x13_1 : Int).toNat ((IntKind.u64.wrap (t244 - 1)) % 4294967296)) := ⟨_, rfl⟩
     replace H : (nat_long.l0 k1 t225 t247 x8_1 (t232.length : Int) y248 (IntKind.u64.wrap (rd t232 (ji13))) (IntKind.u64.wrap (rd t232 (ji16))) (wrap64 (x13_1 - 1))) = some (r1, r2) := by (rw [hy248]; with_reducible exact H)
     have Ny248 := am hy248
     clear hy248
     have H' := am H
     clear H
     have q38 : ((wrap64 ((wrap64 (x13_1 + (t232.length : Int))) + 1)) : Int) ≤ ((x7_1.length : Int) : Int) := of_decide_eq_true (by (with_reducible assumption))
     obtain ⟨i038, hi038, _, hsz38, _⟩ := info_parts info78
     have hroom38 : x7_1.length ≤ co24 := (Kd.R_reads' HO_7.out).2.1
     have hC38 : Kd.C (Kd.int .u32) _ Ao24 x7_1.length x7_1 := (Kd.R_reads' HO_7.out).2.2
     have ql38 : (x13_1 : Int) ≤ ((wrap64 ((wrap64 (x13_1 + (t232.length : Int))) + 1)) : Int) := of_decide_eq_true (by (with_reducible assumption))
     have q038 : (0 : Int) ≤ (x13_1 : Int) := of_decide_eq_true (by (with_reducible assumption))
     have hcut38 := cut_mid (P := Try.prog) 23 78 .i64 .i64 Try.underlying23 hi038 1 hsz38 Ao24 x7_1.length co24 x13_1 (wrap64 ((wrap64 (x13_1 + (t232.length : Int))) + 1)) q038 ql38 q38 hroom38
     have hr38 := Kd.C_mid (lo := (x13_1 : Int).toNat) (hi := ((wrap64 ((wrap64 (x13_1 + (t232.length : Int))) + 1)) : Int).toNat) (c := co24) hC38 (by omega) (by omega) hroom38
     obtain ⟨A38, hA38⟩ : ∃ A1, A1 = (if co24 = (x13_1 : Int).toNat then Ao24 else (Ao24 : Option Addr).map (·.add ((x13_1 : Int).toNat * 1))) := ⟨_, rfl⟩
     obtain ⟨c38, hc38⟩ : ∃ c1, c1 = co24 - (x13_1 : Int).toNat := ⟨_, rfl⟩
     have hy38 : y240.length = ((wrap64 ((wrap64 (x13_1 + (t232.length : Int))) + 1)) : Int).toNat - (x13_1 : Int).toNat := (by rw [Ny240.out, List.length_drop, List.length_take] <;> omega)
     rw [show ((x7_1).take ((wrap64 ((wrap64 (x13_1 + (t232.length : Int))) + 1)) : Int).toNat).drop (x13_1 : Int).toNat = y240 from Ny240.out.symm] at hr38
     replace hr38 : Kd.C (Kd.int .u32) _ A38 y240.length y240 := (by rw [hA38]; exact hr38)
     rw [← hy38, ← hA38, ← hc38] at hcut38
     have HR243 := am hr38
     have HC243 := am (show y240.length ≤ c38 from by rw [hy38, hc38]; exact Nat.sub_le_sub_right (Nat.le_trans (by omega) hroom38) _)
     clear hr38 hC38 hroom38 hi038 hsz38 hc38
     have KY38 := am hy38
     have KA38 := am hA38
     clear hy38 hA38
     (try simp only [hl8_1] at hcut38)
     have KL38 := am (show ((wrap64 ((wrap64 (x13_1 + (t232.length : Int))) + 1)) : Int).toNat ≤ x7_1.length from by omega)
     have KM38 := am (show (x13_1 : Int).toNat ≤ ((wrap64 ((wrap64 (x13_1 + (t232.length : Int))) + 1)) : Int).toNat from by omega)
     replace q38 := eq_true q38
     go_wp2_with (first | (go_at_call 116; (with_reducible refine (nat_guess.calls k1 _ _ y240 (IntKind.u64.wrap (rd t232 (ji13))) (IntKind.u64.wrap (rd t232 (ji16))) t244 _ ?side1 ?side2 A32.out).mono ?_); (case side1 => repeat (exact HR243.out)); (case side2 => exact HC243.out); rintro e w' ⟨rfl, ⟨nd, rfl⟩⟩) | (go_at_call 117; (with_reducible refine (nat_offX.calls k1 (fun k_ => some k_ = (.slice Ao24 x7_1.length co24 : Value).ownBlock) (.slice Ao24 x7_1.length co24) x7_1 x13_1 (wrap64 ((wrap64 (x13_1 + (t232.length : Int))) + 1)) _ _ x8_1 t244 true t246 w _ ?side1 ?side2 ?side3 ?side4 ?side5 ?side6 ?side7 rfl A33.out).mono ?_); (case side1 => repeat ((with_reducible first | exact HB.out | apply pw_below_drewN))); (case side2 => exact Kd.R_tight rfl HO_7.out); (case side3 => exact KA38.out); (case side4 => exact KY38.out); (case side5 => exact HC243.out); (case side6 => exact Kd.C_kept_own (HO_8.out) (fun k_ hk_ hs_ => (hk_.1) hs_)); (case side7 => exact (Kd.R_reads' HO_8.out).2.1); rintro e w39 ⟨rfl, hy0, hb, hkp⟩; replace HO_7 := am (Kd.R_reok rfl hy0 (fun k_ e_ => HO_7.out.1 k_ e_)); replace HO_8 := am (Kd.R_mono (ok' := fun k_ => some k_ ≠ (.slice Ao24 x7_1.length co24 : Value).ownBlock ∧ some k_ ≠ (.slice Ao27 x10_1.length co27 : Value).ownBlock) (Kd.R_keptB (HO_8.out) hkp (fun k_ hk_ hs_ => (hk_.1) hs_)) (fun k_ hk_ => ⟨hk_.1.1, hk_.1.2⟩)); replace HO_10 := am (Kd.R_mono (ok' := fun k_ => some k_ ≠ (.slice Ao24 x7_1.length co24 : Value).ownBlock ∧ some k_ ≠ (.slice (some ad238) x8_1.length co23 : Value).ownBlock) (Kd.R_keptB (HO_10.out) hkp (fun k_ hk_ hs_ => (hk_.1) hs_)) (fun k_ hk_ => ⟨hk_.1.1, hk_.1.2⟩)); replace HB := am (hb); (try clear hb); (try clear hkp); (try clear hy0)) | (go_at_call 118; (with_reducible refine (nat_backX.calls k1 (fun k_ => some k_ = (.slice Ao24 x7_1.length co24 : Value).ownBlock) (.slice Ao24 x7_1.length co24) t246 x13_1 (wrap64 ((wrap64 (x13_1 + (t232.length : Int))) + 1)) _ _ x8_1 t247 w _ ?side1 ?side2 ?side3 ?side4 ?side5 ?side6 ?side7 rfl A35.out).mono ?_); (case side1 => repeat ((with_reducible exact HB.out))); (case side2 => exact Kd.R_tight rfl HO_7.out); (case side3 => exact KA38.out); (case side4 => exact KY38.out); (case side5 => exact HC243.out); (case side6 => exact Kd.C_kept_own (HO_8.out) (fun k_ hk_ hs_ => (hk_.1) hs_)); (case side7 => exact (Kd.R_reads' HO_8.out).2.1); rintro e w40 ⟨rfl, hy0, hb, hkp⟩; replace HO_7 := am (Kd.R_reok rfl hy0 (fun k_ e_ => HO_7.out.1 k_ e_)); replace HO_8 := am (Kd.R_mono (ok' := fun k_ => some k_ ≠ (.slice Ao24 x7_1.length co24 : Value).ownBlock ∧ some k_ ≠ (.slice Ao27 x10_1.length co27 : Value).ownBlock) (Kd.R_keptB (HO_8.out) hkp (fun k_ hk_ hs_ => (hk_.1) hs_)) (fun k_ hk_ => ⟨hk_.1.1, hk_.1.2⟩)); replace HO_10 := am (Kd.R_mono (ok' := fun k_ => some k_ ≠ (.slice Ao24 x7_1.length co24 : Value).ownBlock ∧ some k_ ≠ (.slice (some ad238) x8_1.length co23 : Value).ownBlock) (Kd.R_keptB (HO_10.out) hkp (fun k_ hk_ hs_ => (hk_.1) hs_)) (fun k_ hk_ => ⟨hk_.1.1, hk_.1.2⟩)); replace HB := am (hb); (try clear hb); (try clear hkp); (try clear hy0); have p37 : 0 ≤ (x13_1 : Int) := of_decide_eq_true (by (with_reducible assumption)); have q37 : (x13_1 : Int) < ((x10_1.length : Int) : Int) := of_decide_eq_true (by (with_reducible assumption)); obtain ⟨go37, co37, eo37, gb37, gl37, cl37, HG37⟩ := Kd.R_form HO_10.out (by omega); (cases eo37); have GB37 := am gb37; have GG37 := am HG37; clear gb37 gl37 HG37; obtain ⟨hx37_0, hf37_0⟩ := Kd.R_celln 0 HO_10.out (x13_1 : Int) p37 q37; replace p37 := eq_true p37; replace q37 := eq_true q37; obtain ⟨hy41_, hz41_⟩ := Kd.R_celln 0 HO_10.out (x13_1 : Int) (of_decide_eq_true (by (with_reducible assumption))) (of_decide_eq_true (by (with_reducible assumption))); have HP41 := Kd.R_putg HO_10.out (x13_1 : Int) ((IntKind.u64.wrap (t244 - 1)) % 4294967296)) | ((with_reducible refine gate_store (t := 78) (p := 83) rfl ?_); refine store_event (t := 78) (p := 83) (v := ?vo_w42) (w1 := (w40.setCell ⟨go37, (x13_1 : Int).toNat, none⟩ (.int .u32 ((IntKind.u64.wrap (t244 - 1)) % 4294967296)))) ?hg ?ho ?hn ?hr ?_; (case ho => rfl); (case hg => rfl); (case hn => rfl); (case hr => (go_simp; done)); intro w42 hw; have hg : w40.grownBy w42 (some go37) := (by rw [hw]; exact HP41.2); have hp_ : Kd.R (Kd.int .u32) 78 w42 w.heap.size (fun k_ => some k_ ≠ (.slice Ao24 x7_1.length co24 : Value).ownBlock ∧ some k_ ≠ (.slice (some ad238) x8_1.length co23 : Value).ownBlock) (.slice (some ⟨go37, 0, none⟩) x10_1.length co27) y248 := (by rw [hw, Ny248.out]; exact HP41.1); clear HP41; replace HO_7 := am (Kd.R_after (v := (.slice (some ⟨go37, 0, none⟩) x10_1.length co27)) (v1 := (.slice (some ⟨go37, 0, none⟩) x10_1.length co27)) (ok := (fun k_ => some k_ ≠ (.slice (some ad238) x8_1.length co23 : Value).ownBlock)) HO_7.out hg (.inl rfl)); replace HO_8 := am (Kd.R_after (v := (.slice (some ⟨go37, 0, none⟩) x10_1.length co27)) (v1 := (.slice (some ⟨go37, 0, none⟩) x10_1.length co27)) (ok := (fun k_ => some k_ ≠ (.slice Ao24 x7_1.length co24 : Value).ownBlock)) HO_8.out hg (.inl rfl)); replace HO_10 := am (hp_); replace HB := am ((by rw [hw]; exact below_set (HB.out) GB37.out : Below w.heap.size w w42)); clear hg hw hp_))
     repeat (go_quiet (fail); try go_wp2_with (fail))
     (try simp only [← hl7_1, ← hl8_1, ← hl10_1])
     go_roundg k1
     case measure => have := HK1.out; omega
     case rel => exact ⟨(t247), (x8_1), (y248), (wrap64 (x13_1 - 1)), (by rfl), H', ⟨by have := HK1.out; omega⟩, ⟨by (try simp only [hl7_1]); (try simp only [hl8_1]); (try simp only [hl10_1]); exact HO_7.out⟩, ⟨by (try simp only [hl7_1]); (try simp only [hl8_1]); (try simp only [hl10_1]); exact HO_8.out⟩, ⟨by (try simp only [hl7_1]); (try simp only [hl8_1]); (try simp only [hl10_1]); exact HO_10.out⟩, ⟨by with_reducible exact HB.out⟩⟩
    ·
     replace c34 := Bool.eq_false_iff.mpr c34
     subst c34
     rw [if_neg (show ¬ (false = true) by decide)] at H
     obtain ⟨c43, H⟩ := iteS H
     have c43b0 : decide (x13_1 < (x10_1.length : Int)) = true := decide_eq_true c43
     clear c43
     obtain ⟨y249, hy249⟩ : ∃ y_ : List Int, y_ = (x10_1.set (x13_1 : Int).toNat ((t244) % 4294967296)) := ⟨_, rfl⟩
     replace H : (nat_long.l0 k1 t225 t246 x8_1 (t232.length : Int) y249 (IntKind.u64.wrap (rd t232 (ji13))) (IntKind.u64.wrap (rd t232 (ji16))) (wrap64 (x13_1 - 1))) = some (r1, r2) := by (rw [hy249]; with_reducible exact H)
     have Ny249 := am hy249
     clear hy249
     have H' := am H
     clear H
     have q45 : ((wrap64 ((wrap64 (x13_1 + (t232.length : Int))) + 1)) : Int) ≤ ((x7_1.length : Int) : Int) := of_decide_eq_true (by (with_reducible assumption))
     obtain ⟨i045, hi045, _, hsz45, _⟩ := info_parts info78
     have hroom45 : x7_1.length ≤ co24 := (Kd.R_reads' HO_7.out).2.1
     have hC45 : Kd.C (Kd.int .u32) _ Ao24 x7_1.length x7_1 := (Kd.R_reads' HO_7.out).2.2
     have ql45 : (x13_1 : Int) ≤ ((wrap64 ((wrap64 (x13_1 + (t232.length : Int))) + 1)) : Int) := of_decide_eq_true (by (with_reducible assumption))
     have q045 : (0 : Int) ≤ (x13_1 : Int) := of_decide_eq_true (by (with_reducible assumption))
     have hcut45 := cut_mid (P := Try.prog) 23 78 .i64 .i64 Try.underlying23 hi045 1 hsz45 Ao24 x7_1.length co24 x13_1 (wrap64 ((wrap64 (x13_1 + (t232.length : Int))) + 1)) q045 ql45 q45 hroom45
     have hr45 := Kd.C_mid (lo := (x13_1 : Int).toNat) (hi := ((wrap64 ((wrap64 (x13_1 + (t232.length : Int))) + 1)) : Int).toNat) (c := co24) hC45 (by omega) (by omega) hroom45
     obtain ⟨A45, hA45⟩ : ∃ A1, A1 = (if co24 = (x13_1 : Int).toNat then Ao24 else (Ao24 : Option Addr).map (·.add ((x13_1 : Int).toNat * 1))) := ⟨_, rfl⟩
     obtain ⟨c45, hc45⟩ : ∃ c1, c1 = co24 - (x13_1 : Int).toNat := ⟨_, rfl⟩
     have hy45 : y240.length = ((wrap64 ((wrap64 (x13_1 + (t232.length : Int))) + 1)) : Int).toNat - (x13_1 : Int).toNat := (by rw [Ny240.out, List.length_drop, List.length_take] <;> omega)
     rw [show ((x7_1).take ((wrap64 ((wrap64 (x13_1 + (t232.length : Int))) + 1)) : Int).toNat).drop (x13_1 : Int).toNat = y240 from Ny240.out.symm] at hr45
     replace hr45 : Kd.C (Kd.int .u32) _ A45 y240.length y240 := (by rw [hA45]; exact hr45)
     rw [← hy45, ← hA45, ← hc45] at hcut45
     have HR243 := am hr45
     have HC243 := am (show y240.length ≤ c45 from by rw [hy45, hc45]; exact Nat.sub_le_sub_right (Nat.le_trans (by omega) hroom45) _)
     clear hr45 hC45 hroom45 hi045 hsz45 hc45
     have KY45 := am hy45
     have KA45 := am hA45
     clear hy45 hA45
     (try simp only [hl8_1] at hcut45)
     have KL45 := am (show ((wrap64 ((wrap64 (x13_1 + (t232.length : Int))) + 1)) : Int).toNat ≤ x7_1.length from by omega)
     have KM45 := am (show (x13_1 : Int).toNat ≤ ((wrap64 ((wrap64 (x13_1 + (t232.length : Int))) + 1)) : Int).toNat from by omega)
     replace q45 := eq_true q45
     go_wp2_with (first | (go_at_call 116; (with_reducible refine (nat_guess.calls k1 _ _ y240 (IntKind.u64.wrap (rd t232 (ji13))) (IntKind.u64.wrap (rd t232 (ji16))) t244 _ ?side1 ?side2 A32.out).mono ?_); (case side1 => repeat (exact HR243.out)); (case side2 => exact HC243.out); rintro e w' ⟨rfl, ⟨nd, rfl⟩⟩) | (go_at_call 117; (with_reducible refine (nat_offX.calls k1 (fun k_ => some k_ = (.slice Ao24 x7_1.length co24 : Value).ownBlock) (.slice Ao24 x7_1.length co24) x7_1 x13_1 (wrap64 ((wrap64 (x13_1 + (t232.length : Int))) + 1)) _ _ x8_1 t244 false t246 w _ ?side1 ?side2 ?side3 ?side4 ?side5 ?side6 ?side7 rfl A33.out).mono ?_); (case side1 => repeat ((with_reducible first | exact HB.out | apply pw_below_drewN))); (case side2 => exact Kd.R_tight rfl HO_7.out); (case side3 => exact KA45.out); (case side4 => exact KY45.out); (case side5 => exact HC243.out); (case side6 => exact Kd.C_kept_own (HO_8.out) (fun k_ hk_ hs_ => (hk_.1) hs_)); (case side7 => exact (Kd.R_reads' HO_8.out).2.1); rintro e w46 ⟨rfl, hy0, hb, hkp⟩; replace HO_7 := am (Kd.R_reok rfl hy0 (fun k_ e_ => HO_7.out.1 k_ e_)); replace HO_8 := am (Kd.R_mono (ok' := fun k_ => some k_ ≠ (.slice Ao24 x7_1.length co24 : Value).ownBlock ∧ some k_ ≠ (.slice Ao27 x10_1.length co27 : Value).ownBlock) (Kd.R_keptB (HO_8.out) hkp (fun k_ hk_ hs_ => (hk_.1) hs_)) (fun k_ hk_ => ⟨hk_.1.1, hk_.1.2⟩)); replace HO_10 := am (Kd.R_mono (ok' := fun k_ => some k_ ≠ (.slice Ao24 x7_1.length co24 : Value).ownBlock ∧ some k_ ≠ (.slice (some ad238) x8_1.length co23 : Value).ownBlock) (Kd.R_keptB (HO_10.out) hkp (fun k_ hk_ hs_ => (hk_.1) hs_)) (fun k_ hk_ => ⟨hk_.1.1, hk_.1.2⟩)); replace HB := am (hb); (try clear hb); (try clear hkp); (try clear hy0); have p44 : 0 ≤ (x13_1 : Int) := of_decide_eq_true (by (with_reducible assumption)); have q44 : (x13_1 : Int) < ((x10_1.length : Int) : Int) := of_decide_eq_true (by (with_reducible assumption)); obtain ⟨go44, co44, eo44, gb44, gl44, cl44, HG44⟩ := Kd.R_form HO_10.out (by omega); (cases eo44); have GB44 := am gb44; have GG44 := am HG44; clear gb44 gl44 HG44; obtain ⟨hx44_0, hf44_0⟩ := Kd.R_celln 0 HO_10.out (x13_1 : Int) p44 q44; replace p44 := eq_true p44; replace q44 := eq_true q44; obtain ⟨hy47_, hz47_⟩ := Kd.R_celln 0 HO_10.out (x13_1 : Int) (of_decide_eq_true (by (with_reducible assumption))) (of_decide_eq_true (by (with_reducible assumption))); have HP47 := Kd.R_putg HO_10.out (x13_1 : Int) ((t244) % 4294967296)) | ((with_reducible refine gate_store (t := 78) (p := 83) rfl ?_); refine store_event (t := 78) (p := 83) (v := ?vo_w48) (w1 := (w46.setCell ⟨go44, (x13_1 : Int).toNat, none⟩ (.int .u32 ((t244) % 4294967296)))) ?hg ?ho ?hn ?hr ?_; (case ho => rfl); (case hg => rfl); (case hn => rfl); (case hr => (go_simp; done)); intro w48 hw; have hg : w46.grownBy w48 (some go44) := (by rw [hw]; exact HP47.2); have hp_ : Kd.R (Kd.int .u32) 78 w48 w.heap.size (fun k_ => some k_ ≠ (.slice Ao24 x7_1.length co24 : Value).ownBlock ∧ some k_ ≠ (.slice (some ad238) x8_1.length co23 : Value).ownBlock) (.slice (some ⟨go44, 0, none⟩) x10_1.length co27) y249 := (by rw [hw, Ny249.out]; exact HP47.1); clear HP47; replace HO_7 := am (Kd.R_after (v := (.slice (some ⟨go44, 0, none⟩) x10_1.length co27)) (v1 := (.slice (some ⟨go44, 0, none⟩) x10_1.length co27)) (ok := (fun k_ => some k_ ≠ (.slice (some ad238) x8_1.length co23 : Value).ownBlock)) HO_7.out hg (.inl rfl)); replace HO_8 := am (Kd.R_after (v := (.slice (some ⟨go44, 0, none⟩) x10_1.length co27)) (v1 := (.slice (some ⟨go44, 0, none⟩) x10_1.length co27)) (ok := (fun k_ => some k_ ≠ (.slice Ao24 x7_1.length co24 : Value).ownBlock)) HO_8.out hg (.inl rfl)); replace HO_10 := am (hp_); replace HB := am ((by rw [hw]; exact below_set (HB.out) GB44.out : Below w.heap.size w w48)); clear hg hw hp_))
     repeat (go_quiet (fail); try go_wp2_with (fail))
     (try simp only [← hl7_1, ← hl8_1, ← hl10_1])
     go_roundg k1
     case measure => have := HK1.out; omega
     case rel => exact ⟨(t246), (x8_1), (y249), (wrap64 (x13_1 - 1)), (by rfl), H', ⟨by have := HK1.out; omega⟩, ⟨by (try simp only [hl7_1]); (try simp only [hl8_1]); (try simp only [hl10_1]); exact HO_7.out⟩, ⟨by (try simp only [hl7_1]); (try simp only [hl8_1]); (try simp only [hl10_1]); exact HO_8.out⟩, ⟨by (try simp only [hl7_1]); (try simp only [hl8_1]); (try simp only [hl10_1]); exact HO_10.out⟩, ⟨by with_reducible exact HB.out⟩⟩
   ·
    rw [if_neg c28] at H
    have c28b0 : decide (0 ≤ x13_1) = false := decide_eq_false c28
    clear c28
    obtain ⟨t250, A49, H⟩ := bindE H
    have H' := am H
    clear H
    go_wp2_with ((go_at_call 79; (with_reducible refine (nat_trim_own.calls k1 (fun k_ => some k_ = (.slice Ao24 x7_1.length co24 : Value).ownBlock) (.slice Ao24 x7_1.length co24) x7_1 t250 w _ ?side1 ?side2 A49.out).mono ?_); (case side1 => repeat ((with_reducible exact HB.out))); (case side2 => exact Kd.R_tight rfl HO_7.out); rintro e w50 ⟨v251, rfl, ho0, hb, hkp⟩; have HO252 := am (Kd.R_mono (ok' := fun k_ => some k_ ≠ (.slice (some ad238) x8_1.length co23 : Value).ownBlock ∧ some k_ ≠ (.slice Ao27 x10_1.length co27 : Value).ownBlock) ho0 (fun k_ hk_ => ⟨Or.elim hk_ (fun hs_ => fun e_ => (((HO_8.out).1 k_ e_.symm).1) hs_) (fun hn_ => (Kd.fresh' (Kd.R_lt HO_8.out) k_ hn_)), Or.elim hk_ (fun hs_ => fun e_ => (((HO_10.out).1 k_ e_.symm).1) hs_) (fun hn_ => (Kd.fresh' (Kd.R_lt HO_10.out) k_ hn_))⟩)); replace HO_8 := am (Kd.R_mono (ok' := fun k_ => some k_ ≠ (.slice Ao27 x10_1.length co27 : Value).ownBlock ∧ some k_ ≠ (v251 : Value).ownBlock) (Kd.R_keptB (HO_8.out) hkp (fun k_ hk_ hs_ => (hk_.1) hs_)) (fun k_ hk_ => ⟨hk_.1.2, fun e_ => Or.elim (ho0.1 k_ e_.symm) (fun hs_ => hk_.2.1 hs_) (fun hn_ => Nat.not_le.2 hk_.2.2 hn_)⟩)); replace HO_10 := am (Kd.R_mono (ok' := fun k_ => some k_ ≠ (.slice (some ad238) x8_1.length co23 : Value).ownBlock ∧ some k_ ≠ (v251 : Value).ownBlock) (Kd.R_keptB (HO_10.out) hkp (fun k_ hk_ hs_ => (hk_.1) hs_)) (fun k_ hk_ => ⟨hk_.1.2, fun e_ => Or.elim (ho0.1 k_ e_.symm) (fun hs_ => hk_.2.1 hs_) (fun hn_ => Nat.not_le.2 hk_.2.2 hn_)⟩)); replace HB := am (hb); clear HO_7; (try clear hb); (try clear hkp); (try clear ho0); obtain ⟨Ao51, co51, eo51⟩ := Kd.R_slice HO252.out; subst eo51))
    repeat (go_quiet (fail); try go_wp2_with (fail))
    go_loopg [17, 18] k1 (fun kq v17 v18 w' => ∃ (x16_2 : List Int) (x17_2 : Int) (x18_2 : Int), v17 = .int .u64 x17_2 ∧ v18 = .int .i64 x18_2 ∧ Aside0 (nat_long.l1 kq t225 x10_1 x16_2 x17_2 x18_2 = some (r1, r2)) ∧ Aside0 (kq ≤ k1) ∧ Aside0 (Kd.R (Kd.int .u32) 78 w' w.heap.size (fun k_ => some k_ ≠ ((.slice Ao51 t250.length co51) : Value).ownBlock) (.slice Ao27 x10_1.length co27) x10_1) ∧ Aside0 (Kd.R (Kd.int .u32) 78 w' w.heap.size (fun k_ => some k_ ≠ ((.slice Ao27 x10_1.length co27) : Value).ownBlock) (.slice Ao51 t250.length co51) x16_2) ∧ Aside0 (Below w.heap.size w w'))
    case atStart => exact ⟨(t250), (0), (wrap64 ((t250.length : Int) - 1)), (by rfl), (by rfl), H', ⟨Nat.le_refl _⟩, ⟨by exact Kd.R_mono HO_10.out (fun _ hk => hk.2)⟩, ⟨by exact Kd.R_mono HO252.out (fun _ hk => hk.2)⟩, ⟨by with_reducible exact HB.out⟩⟩
    case round =>
     clear H'
     try clear c28b0
     obtain ⟨x16_2, x17_2, x18_2, rfl, rfl, HA, HK2, HO_10, HO_16, HB⟩ := hrel
     have hl16_2 := (Kd.R_reads' HO_16.out).1
     rw [hl16_2] at HO_16
     (try simp only [hl16_2])
     (try simp only [hl16_2] at HO_10)
     cases gk with
     | zero => exact absurd HA.out (by simp [nat_long.l1])
     | succ k2 =>
      have H := HA.out
      clear HA
      simp only [nat_long.l1] at H
      by_cases c52 : x18_2 ≥ 0
      ·
       rw [if_pos c52] at H
       have c52b0 : decide (0 ≤ x18_2) = true := decide_eq_true c52
       clear c52
       obtain ⟨c53, H⟩ := iteS H
       have c53b0 : decide (0 ≤ x18_2) = true := decide_eq_true c53
       clear c53
       obtain ⟨c54, H⟩ := iteS H
       have c54b0 : decide (x18_2 < (x16_2.length : Int)) = true := decide_eq_true c54
       clear c54
       obtain ⟨c55, H⟩ := iteS H
       have c55b0 := eq_true c55
       have c55b1 : decide (0 ≤ t225) = true := decide_eq_true c55
       clear c55
       obtain ⟨ji56, hji56⟩ : ∃ j_ : Int, (shr .u64 (Go.bits .or .u64 (IntKind.u64.wrap (x17_2 * 4294967296)) (IntKind.u64.wrap (rd x16_2 x18_2))) t225) = j_ := ⟨_, rfl⟩
       replace H : (nat_long.l1 k2 t225 x10_1 (x16_2.set (x18_2 : Int).toNat ((ji56) % 4294967296)) (Go.bits .or .u64 (IntKind.u64.wrap (x17_2 * 4294967296)) (IntKind.u64.wrap (rd x16_2 x18_2))) (wrap64 (x18_2 - 1))) = some (r1, r2) := by (rw [hji56] at H; exact H)
       have hji56_ : ((Go.bits .or .u64 (IntKind.u64.wrap (x17_2 * 4294967296)) (IntKind.u64.wrap (rd x16_2 x18_2))) / 2 ^ min t225.toNat 64) = ji56 := hji56
       have hji56z : t225 ≤ 64 → ((Go.bits .or .u64 (IntKind.u64.wrap (x17_2 * 4294967296)) (IntKind.u64.wrap (rd x16_2 x18_2))) / 2 ^ t225.toNat) = ji56 := shr_small hji56
       obtain ⟨y254, hy254⟩ : ∃ y_ : List Int, y_ = (x16_2.set (x18_2 : Int).toNat ((ji56) % 4294967296)) := ⟨_, rfl⟩
       replace H : (nat_long.l1 k2 t225 x10_1 y254 (Go.bits .or .u64 (IntKind.u64.wrap (x17_2 * 4294967296)) (IntKind.u64.wrap (rd x16_2 x18_2))) (wrap64 (x18_2 - 1))) = some (r1, r2) := by (rw [hy254]; with_reducible exact H)
       have Ny254 := am hy254
       clear hy254
       have H' := am H
       clear H
       have p253 : 0 ≤ (x18_2 : Int) := of_decide_eq_true (by (with_reducible assumption))
       have q253 : x18_2 < (x16_2.length : Int) := of_decide_eq_true (by (with_reducible assumption))
       obtain ⟨ad253, e253, hx253_0⟩ := Kd.at_int (Kd.R_reads' HO_16.out).2.2 x18_2 p253 q253
       cases e253
       replace p253 := eq_true p253
       replace q253 := eq_true q253
       have p57 : 0 ≤ (x18_2 : Int) := of_decide_eq_true (by (with_reducible assumption))
       have q57 : (x18_2 : Int) < ((x16_2.length : Int) : Int) := of_decide_eq_true (by (with_reducible assumption))
       obtain ⟨go57, co57, eo57, gb57, gl57, cl57, HG57⟩ := Kd.R_form HO_16.out (by omega)
       (cases eo57)
       have GB57 := am gb57
       have GG57 := am HG57
       clear gb57 gl57 HG57
       (simp only [add_plain] at hx253_0)
       obtain ⟨hx57_0, hf57_0⟩ := Kd.R_celln 0 HO_16.out (x18_2 : Int) p57 q57
       replace p57 := eq_true p57
       replace q57 := eq_true q57
       have HP58 := Kd.R_putg HO_16.out (x18_2 : Int) ((ji56) % 4294967296)
       go_wp2_with (((with_reducible refine gate_store (t := 78) (p := 107) rfl ?_); refine store_event (t := 78) (p := 107) (v := ?vo_w59) (w1 := (wr.setCell ⟨go57, (x18_2 : Int).toNat, none⟩ (.int .u32 ((ji56) % 4294967296)))) ?hg ?ho ?hn ?hr ?_; (case ho => rfl); (case hg => rfl); (case hn => rfl); (case hr => (go_simp; done)); intro w59 hw; have hg : wr.grownBy w59 (some go57) := (by rw [hw]; exact HP58.2); have hp_ : Kd.R (Kd.int .u32) 78 w59 w.heap.size (fun k_ => some k_ ≠ (.slice Ao27 x10_1.length co27 : Value).ownBlock) (.slice (some ⟨go57, 0, none⟩) x16_2.length co51) y254 := (by rw [hw, Ny254.out]; exact HP58.1); clear HP58; replace HO_10 := am (Kd.R_after (v := (.slice (some ⟨go57, 0, none⟩) x16_2.length co51)) (v1 := (.slice (some ⟨go57, 0, none⟩) x16_2.length co51)) (ok := (fun _ => True)) (by exact Kd.R_mono HO_10.out (fun _ hk => ⟨trivial, hk⟩)) hg (.inl rfl)); replace HO_16 := am (hp_); replace HB := am ((by rw [hw]; exact below_set (HB.out) GB57.out : Below w.heap.size w w59)); clear hg hw hp_))
       repeat (go_quiet (fail); try go_wp2_with (fail))
       (try simp only [← hl16_2])
       go_roundg k2
       case measure => have := HK1.out; have := HK2.out; omega
       case rel => exact ⟨(y254), (Go.bits .or .u64 (IntKind.u64.wrap (x17_2 * 4294967296)) (IntKind.u64.wrap (rd x16_2 x18_2))), (wrap64 (x18_2 - 1)), (by rfl), (by rfl), H', ⟨by have := HK1.out; have := HK2.out; omega⟩, ⟨by (try simp only [hl16_2]); exact Kd.R_mono HO_10.out (fun _ hk => hk.2)⟩, ⟨by (try simp only [hl16_2]); exact HO_16.out⟩, ⟨by with_reducible exact HB.out⟩⟩
      ·
       rw [if_neg c52] at H
       have c52b0 : decide (0 ≤ x18_2) = false := decide_eq_false c52
       clear c52
       obtain ⟨t255, A60, H⟩ := bindE H
       obtain ⟨t258, A61, H⟩ := bindE H
       simp only [Option.some.injEq, Prod.mk.injEq] at H
       obtain ⟨rfl, rfl⟩ := H
       go_wp2_with (first | (go_at_call 79; (with_reducible refine (nat_trim_own.calls k2 (fun k_ => some k_ = (.slice Ao27 x10_1.length co27 : Value).ownBlock) (.slice Ao27 x10_1.length co27) x10_1 t255 w _ ?side1 ?side2 A60.out).mono ?_); (case side1 => repeat ((with_reducible exact HB.out))); (case side2 => exact Kd.R_tight rfl HO_10.out); rintro e w62 ⟨v256, rfl, ho0, hb, hkp⟩; have HO257 := am (Kd.R_mono (ok' := fun k_ => some k_ ≠ (.slice Ao51 x16_2.length co51 : Value).ownBlock) ho0 (fun k_ hk_ => Or.elim hk_ (fun hs_ => fun e_ => (((HO_16.out).1 k_ e_.symm)) hs_) (fun hn_ => (Kd.fresh' (Kd.R_lt HO_16.out) k_ hn_)))); replace HO_16 := am (Kd.R_mono (ok' := fun k_ => some k_ ≠ (v256 : Value).ownBlock) (Kd.R_keptB (HO_16.out) hkp (fun k_ hk_ hs_ => (hk_) hs_)) (fun k_ hk_ => fun e_ => Or.elim (ho0.1 k_ e_.symm) (fun hs_ => hk_.2.1 hs_) (fun hn_ => Nat.not_le.2 hk_.2.2 hn_))); replace HB := am (hb); clear HO_10; (try clear hb); (try clear hkp); (try clear ho0)) | (go_at_call 79; (with_reducible refine (nat_trim_own.calls k2 (fun k_ => some k_ = (.slice Ao51 x16_2.length co51 : Value).ownBlock) (.slice Ao51 x16_2.length co51) x16_2 t258 w _ ?side1 ?side2 A61.out).mono ?_); (case side1 => repeat ((with_reducible exact HB.out))); (case side2 => exact Kd.R_tight rfl HO_16.out); rintro e w63 ⟨v259, rfl, ho0, hb, hkp⟩; have HO260 := am (Kd.R_mono (ok' := fun k_ => some k_ ≠ (v256 : Value).ownBlock) ho0 (fun k_ hk_ => Or.elim hk_ (fun hs_ => fun e_ => (((HO257.out).1 k_ e_.symm)) hs_) (fun hn_ => (Kd.fresh' (Kd.R_lt HO257.out) k_ hn_)))); replace HO257 := am (Kd.R_mono (ok' := fun k_ => some k_ ≠ (v259 : Value).ownBlock) (Kd.R_keptB (HO257.out) hkp (fun k_ hk_ hs_ => (hk_) hs_)) (fun k_ hk_ => fun e_ => Or.elim (ho0.1 k_ e_.symm) (fun hs_ => hk_.2.1 hs_) (fun hn_ => Nat.not_le.2 hk_.2.2 hn_))); replace HB := am (hb); clear HO_16; (try clear hb); (try clear hkp); (try clear ho0)))
       repeat (go_quiet (fail); try go_wp2_with (fail))
       go_ret2
       exact ⟨_, _, by rfl, by exact HO257.out, by exact HO260.out, by with_reducible exact HB.out⟩

end Go.Proofs.Ytmfmojldebhboaa.ZWhole
