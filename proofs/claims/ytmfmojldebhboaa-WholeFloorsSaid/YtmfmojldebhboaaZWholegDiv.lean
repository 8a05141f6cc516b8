-- printed by zprint.py, a program of this session's
import Derived.Test.YtmfmojldebhboaaZWhole0
import Derived.Test.YtmfmojldebhboaaZWholegCore
import Derived.Test.YtmfmojldebhboaaZWholegLong
namespace Go.Proofs.Ytmfmojldebhboaa.ZWhole
open Go.RowKit Go.Proofs.YtmfmojldebhboaaW.PrintWords Go.Proofs.YtmfmojldebhboaaW.PrintLast Go.Proofs.YtmfmojldebhboaaW.PrintMore
set_option linter.unusedVariables false
set_option linter.unusedSimpArgs false

/-! ### nat_divmod: function 80 -/
def nat_divmod.f (k : Nat) (l0 : List Int) (l1 : List Int) : Option (List Int × List Int) := (nat_cmp.f k l0 l1).bind fun t261 => (if t261 < 0 then ((api_Nat_uint32.f l0).bind fun t262 => (some (([] : List Int), t262))) else (if (l1.length : Int) = 1 then ((api_Nat_uint32.f l0).bind fun t265 => (if 0 < (l1.length : Int) then ((nat_short.f k t265 (rd l1 0)).bind fun bt269 => ((nat_trim_own.f k bt269.2).bind fun t271 => ((nat_trim_own.f k (([bt269.1] : List Int))).bind fun t277 => (some (t271, t277))))) else (none))) else ((nat_long.f k l0 l1).bind fun bt280 => (some (bt280.1, bt280.2)))))
theorem nat_divmod.mono : ∀ a0 a1 k, LeO (nat_divmod.f k a0 a1) (nat_divmod.f (k + 1) a0 a1) := by
 intro a0 a1 k
 unfold nat_divmod.f
 repeat' first
   | (with_reducible exact nat_cmp.mono _ _ _)
   | (with_reducible exact nat_long.mono _ _ _)
   | (with_reducible exact nat_short.mono _ _ _)
   | (with_reducible exact nat_trim_own.mono _ _)
   | (with_reducible exact LeO.refl _)
   | (with_reducible refine LeO.ite ?_ ?_)
   | (with_reducible refine LeO.bind ?_ (fun _ => ?_))
set_option maxHeartbeats 8000000 in
set_option maxRecDepth 100000 in
theorem nat_divmod.calls (k : Nat) (A0 : Option Addr) (c0 : Nat) (l0 : List Int) (A1 : Option Addr) (c1 : Nat) (l1 : List Int) (r1 : List Int) (r2 : List Int) (w : World) (hr0 : Kd.C (Kd.int .u32) w A0 l0.length l0) (hc0 : l0.length ≤ c0) (hr1 : Kd.C (Kd.int .u32) w A1 l1.length l1) (hc1 : l1.length ≤ c1) (h : nat_divmod.f k l0 l1 = some (r1, r2)) :
  Calls Try.prog 80 #[.slice A0 l0.length c0, .slice A1 l1.length c1] w fun e w' => ∃ v0_ v1_ : Value, e = .returned (.tuple #[v0_, v1_]) ∧ Kd.R (Kd.int .u32) 78 w' w.heap.size (fun k_ => some k_ ≠ (v1_ : Value).ownBlock) v0_ r1 ∧ Kd.R (Kd.int .u32) 78 w' w.heap.size (fun k_ => some k_ ≠ (v0_ : Value).ownBlock) v1_ r2 ∧ Below w.heap.size w w' := by
 have HR0 := am hr0
 have HC0 := am hc0
 clear hr0 hc0
 have HR1 := am hr1
 have HC1 := am hc1
 clear hr1 hc1
 have HB := am (Below.refl w.heap.size w)
 have H : ((nat_cmp.f k l0 l1).bind fun t261 => (if t261 < 0 then ((api_Nat_uint32.f l0).bind fun t262 => (some (([] : List Int), t262))) else (if (l1.length : Int) = 1 then ((api_Nat_uint32.f l0).bind fun t265 => (if 0 < (l1.length : Int) then ((nat_short.f k t265 (rd l1 0)).bind fun bt269 => ((nat_trim_own.f k bt269.2).bind fun t271 => ((nat_trim_own.f k (([bt269.1] : List Int))).bind fun t277 => (some (t271, t277))))) else (none))) else ((nat_long.f k l0 l1).bind fun bt280 => (some (bt280.1, bt280.2)))))) = some (r1, r2) := h
 clear h
 obtain ⟨t261, A3, H⟩ := bindE H
 by_cases c4 : t261 < 0
 ·
  rw [if_pos c4] at H
  have c4b0 : decide (t261 < 0) = true := decide_eq_true c4
  clear c4
  obtain ⟨t262, A5, H⟩ := bindE H
  simp only [Option.some.injEq, Prod.mk.injEq] at H
  obtain ⟨rfl, rfl⟩ := H
  go_enter Try.func80, Try.ntmps80
  go_wp2_with (first | ((with_reducible refine gate_callee (f := 85) rfl ?_); refine goesL_ (some 11) rfl rfl Try.func85 (by kernel_rfl) rfl #[.slice A0 l0.length c0, .slice A1 l1.length c1] rfl (by (try simp only [List.map_toArray, List.map_cons, List.map_nil]); rfl) ?_; (with_reducible refine (nat_cmp.calls k _ _ l0 _ _ l1 t261 _ ?side1 ?side2 ?side3 ?side4 A3.out).mono ?_); (case side1 => exact HR0.out); (case side2 => exact HC0.out); (case side3 => exact HR1.out); (case side4 => exact HC1.out); rintro e w6 ⟨rfl, hb⟩; refine ⟨_, rfl, ?_⟩; replace HB := am (below_step HB.out hb); (try clear hb)) | ((with_reducible refine gate_callee (f := 84) rfl ?_); refine goesL_ (some 14) rfl rfl Try.func84 (by kernel_rfl) rfl #[.slice A0 l0.length c0] rfl (by (try simp only [List.map_toArray, List.map_cons, List.map_nil]); rfl) ?_; (with_reducible refine (api_Nat_uint32.calls _ _ l0 t262 _ ?side1 ?side2 A5.out).mono ?_); (case side1 => repeat (exact (Kd.C_below HR0.out HB.out))); (case side2 => exact HC0.out); rintro e w7 ⟨v263, rfl, ho0, hb⟩; refine ⟨_, rfl, ?_⟩; have HO264 := am (Kd.R_lower ho0 (below_size HB.out)); replace HB := am (below_step HB.out hb); (try clear hb); (try clear ho0)))
  go_ret2
  exact ⟨_, _, by rfl, by exact Kd.R_nil _ _ _ _ _, by exact Kd.R_mono HO264.out (fun _ hk => (by simp [Value.ownBlock])), by with_reducible exact HB.out⟩
 ·
  rw [if_neg c4] at H
  have c4b0 : decide (t261 < 0) = false := decide_eq_false c4
  clear c4
  by_cases c8 : (l1.length : Int) = 1
  ·
   rw [if_pos c8] at H
   have c8b0 : ((l1.length : Int) == 1) = true := beq_iff_eq.mpr c8
   have c8b1 : ((l1.length : Int) != 1) = false := bne_eq_false_iff_eq.mpr c8
   clear c8
   obtain ⟨t265, A9, H⟩ := bindE H
   obtain ⟨c10, H⟩ := iteS H
   have c10b0 : decide (0 < (l1.length : Int)) = true := decide_eq_true c10
   have c10b1 : decide (0 < l1.length) = true := decide_eq_true (by omega)
   clear c10
   obtain ⟨⟨t269, t270⟩, A11, H⟩ := bindE H
   dsimp only at H
   obtain ⟨t271, A12, H⟩ := bindE H
   obtain ⟨y274, hy274⟩ : ∃ y_ : List Int, y_ = (([t269] : List Int)) := ⟨_, rfl⟩
   replace H : ((nat_trim_own.f k y274).bind fun t277 => (some (t271, t277))) = some (r1, r2) := by (rw [hy274]; with_reducible exact H)
   have Ny274 := am hy274
   clear hy274
   obtain ⟨t277, A13, H⟩ := bindE H
   simp only [Option.some.injEq, Prod.mk.injEq] at H
   obtain ⟨rfl, rfl⟩ := H
   go_enter Try.func80, Try.ntmps80
   go_wp2_with (first | ((with_reducible refine gate_callee (f := 85) rfl ?_); refine goesL_ (some 11) rfl rfl Try.func85 (by kernel_rfl) rfl #[.slice A0 l0.length c0, .slice A1 l1.length c1] rfl (by (try simp only [List.map_toArray, List.map_cons, List.map_nil]); rfl) ?_; (with_reducible refine (nat_cmp.calls k _ _ l0 _ _ l1 t261 _ ?side1 ?side2 ?side3 ?side4 A3.out).mono ?_); (case side1 => exact HR0.out); (case side2 => exact HC0.out); (case side3 => exact HR1.out); (case side4 => exact HC1.out); rintro e w14 ⟨rfl, hb⟩; refine ⟨_, rfl, ?_⟩; replace HB := am (below_step HB.out hb); (try clear hb)) | ((with_reducible refine gate_callee (f := 84) rfl ?_); refine goesL_ (some 20) rfl rfl Try.func84 (by kernel_rfl) rfl #[.slice A0 l0.length c0] rfl (by (try simp only [List.map_toArray, List.map_cons, List.map_nil]); rfl) ?_; (with_reducible refine (api_Nat_uint32.calls _ _ l0 t265 _ ?side1 ?side2 A9.out).mono ?_); (case side1 => repeat (exact (Kd.C_below HR0.out HB.out))); (case side2 => exact HC0.out); rintro e w15 ⟨v266, rfl, ho0, hb⟩; refine ⟨_, rfl, ?_⟩; have HO267 := am (Kd.R_lower ho0 (below_size HB.out)); replace HB := am (below_step HB.out hb); (try clear hb); (try clear ho0); have p268 : 0 ≤ (0 : Int) := (by omega); have q268 : 0 < (l1.length : Int) := of_decide_eq_true (by (with_reducible assumption)); obtain ⟨ad268, e268, hx268_0⟩ := Kd.at_int HR1.out 0 p268 q268; cases e268; have qi268 : (0 < l1.length) = True := eq_true (by omega); (try rw [show ((0 : Int)).toNat = 0 from rfl] at hx268_0); (try rw [Addr.add_zero'] at hx268_0); replace hx268_0 := (HB.out.cell (World.block_lt_of_cell? w _ hx268_0)).trans hx268_0; replace p268 := eq_true p268; replace q268 := eq_true q268; obtain ⟨Ao16, co16, eo16⟩ := Kd.R_slice HO267.out; subst eo16) | ((with_reducible refine gate_callee (f := 95) rfl ?_); refine goesL_ (some 25) rfl rfl Try.func95 (by kernel_rfl) rfl #[.slice Ao16 t265.length co16, .int .u32 (rd l1 0)] rfl (by (try simp only [List.map_toArray, List.map_cons, List.map_nil]); rfl) ?_; (with_reducible refine (nat_short.calls k (fun k_ => some k_ = (.slice Ao16 t265.length co16 : Value).ownBlock) (.slice Ao16 t265.length co16) t265 (rd l1 0) t269 t270 w _ ?side1 ?side2 A11.out).mono ?_); (case side1 => repeat ((with_reducible exact HB.out))); (case side2 => exact Kd.R_tight rfl HO267.out); rintro e w17 ⟨rfl, hy0, hb, hkp⟩; refine ⟨_, rfl, ?_⟩; replace HO267 := am (Kd.R_reok rfl hy0 (fun k_ e_ => HO267.out.1 k_ e_)); replace HB := am (hb); (try clear hb); (try clear hkp); (try clear hy0)) | ((with_reducible refine gate_callee (f := 79) rfl ?_); refine goesL_ (some 27) rfl rfl Try.func79 (by kernel_rfl) rfl #[.slice Ao16 t265.length co16] rfl (by (try simp only [List.map_toArray, List.map_cons, List.map_nil]); rfl) ?_; (with_reducible refine (nat_trim_own.calls k (fun k_ => some k_ = (.slice Ao16 t265.length co16 : Value).ownBlock) (.slice Ao16 t265.length co16) t270 t271 w _ ?side1 ?side2 A12.out).mono ?_); (case side1 => repeat ((with_reducible exact HB.out))); (case side2 => exact Kd.R_tight rfl HO267.out); rintro e w18 ⟨v272, rfl, ho0, hb, hkp⟩; refine ⟨_, rfl, ?_⟩; have HO273 := am (Kd.R_mono (ok' := fun k_ => True) ho0 (fun k_ hk_ => trivial)); replace HB := am (hb); clear HO267; (try clear hb); (try clear hkp); (try clear ho0)) | ((with_reducible refine gate_dst (N := 29) rfl ?_); refine Kd.R_lit (Kd.int .u32) _ 78 ?hg (N := 29) ?hd (xs := ([t269] : List Int)) (inner := [.int .u32 t269]) (ok := fun _ => True) (okp := fun _ => True) ?hr ?hp (fun _ hk => hk) trivial (Below.refl _ _) (Nat.le_refl _) (by simp) ?_; (case hd => rfl); (case hg => rfl); (case hr => (go_simp; done)); (case hp => exact (Reps.one (show Kd.M (Kd.int .u32) _ _ _ t269 [.int .u32 t269] from rfl) (Reps.none _ _))); intro v275 w19 ho20 hb hg_ hnew_; clear hg_ hnew_; (rw [← Ny274.out] at ho20); have HO276 := am (Kd.R_lower (Kd.R_new' ho20 (Kd.R_lt HO273.out)) (below_size HB.out)); replace HO273 := am (Kd.R_elder' HO273.out (Kd.R_base ho20) hb); replace HB := am (below_step HB.out hb); clear hb ho20; obtain ⟨Ao21, co21, eo21⟩ := Kd.R_slice HO276.out; subst eo21) | ((with_reducible refine gate_callee (f := 79) rfl ?_); refine goesL_ (some 30) rfl rfl Try.func79 (by kernel_rfl) rfl #[.slice Ao21 y274.length co21] rfl (by (try simp only [List.map_toArray, List.map_cons, List.map_nil]); rfl) ?_; (with_reducible refine (nat_trim_own.calls k (fun k_ => some k_ = (.slice Ao21 y274.length co21 : Value).ownBlock) (.slice Ao21 y274.length co21) y274 t277 w _ ?side1 ?side2 A13.out).mono ?_); (case side1 => repeat ((with_reducible exact HB.out))); (case side2 => exact Kd.R_tight rfl HO276.out); rintro e w22 ⟨v278, rfl, ho0, hb, hkp⟩; refine ⟨_, rfl, ?_⟩; have HO279 := am (Kd.R_mono (ok' := fun k_ => some k_ ≠ (v272 : Value).ownBlock) ho0 (fun k_ hk_ => Or.elim hk_ (fun hs_ => fun e_ => (((HO273.out).1 k_ e_.symm).2) hs_) (fun hn_ => (Kd.fresh' (Kd.R_lt HO273.out) k_ hn_)))); replace HO273 := am (Kd.R_mono (ok' := fun k_ => some k_ ≠ (v278 : Value).ownBlock) (Kd.R_keptB (HO273.out) hkp (fun k_ hk_ hs_ => (hk_.2) hs_)) (fun k_ hk_ => fun e_ => Or.elim (ho0.1 k_ e_.symm) (fun hs_ => hk_.2.1 hs_) (fun hn_ => Nat.not_le.2 hk_.2.2 hn_))); replace HB := am (hb); clear HO276; (try clear hb); (try clear hkp); (try clear ho0)))
   go_ret2
   exact ⟨_, _, by rfl, by exact HO273.out, by exact HO279.out, by with_reducible exact HB.out⟩
  ·
   rw [if_neg c8] at H
   have c8b0 : ((l1.length : Int) == 1) = false := beq_eq_false_iff_ne.mpr c8
   have c8b1 : ((l1.length : Int) != 1) = true := bne_iff_ne.mpr c8
   obtain ⟨⟨t280, t281⟩, A23, H⟩ := bindE H
   replace H : (some (t280, t281)) = some (r1, r2) := H
   simp only [Option.some.injEq, Prod.mk.injEq] at H
   obtain ⟨rfl, rfl⟩ := H
   go_enter Try.func80, Try.ntmps80
   go_wp2_with (first | ((with_reducible refine gate_callee (f := 85) rfl ?_); refine goesL_ (some 11) rfl rfl Try.func85 (by kernel_rfl) rfl #[.slice A0 l0.length c0, .slice A1 l1.length c1] rfl (by (try simp only [List.map_toArray, List.map_cons, List.map_nil]); rfl) ?_; (with_reducible refine (nat_cmp.calls k _ _ l0 _ _ l1 t261 _ ?side1 ?side2 ?side3 ?side4 A3.out).mono ?_); (case side1 => exact HR0.out); (case side2 => exact HC0.out); (case side3 => exact HR1.out); (case side4 => exact HC1.out); rintro e w24 ⟨rfl, hb⟩; refine ⟨_, rfl, ?_⟩; replace HB := am (below_step HB.out hb); (try clear hb)) | ((with_reducible refine gate_callee (f := 96) rfl ?_); refine goesL_ (some 33) rfl rfl Try.func96 (by kernel_rfl) rfl #[.slice A0 l0.length c0, .slice A1 l1.length c1] rfl (by (try simp only [List.map_toArray, List.map_cons, List.map_nil]); rfl) ?_; (with_reducible refine (nat_long.calls k _ _ l0 _ _ l1 t280 t281 _ ?side1 ?side2 ?side3 ?side4 A23.out).mono ?_); (case side1 => repeat (exact (Kd.C_below HR0.out HB.out))); (case side2 => exact HC0.out); (case side3 => repeat (exact (Kd.C_below HR1.out HB.out))); (case side4 => exact HC1.out); rintro e w25 ⟨v282, v284, rfl, ho0, ho1, hb⟩; refine ⟨_, rfl, ?_⟩; have HO283 := am (Kd.R_lower ho0 (below_size HB.out)); have HO285 := am (Kd.R_lower ho1 (below_size HB.out)); replace HB := am (below_step HB.out hb); (try clear hb); (try clear ho0); (try clear ho1)))
   go_ret2
   exact ⟨_, _, by rfl, by exact HO283.out, by exact HO285.out, by with_reducible exact HB.out⟩

/-! ### nat_DivMod: function 46 -/
def nat_DivMod.f (k : Nat) (l0 : List Int) (l1 : List Int) : Option (List Int × List Int × Int) := (nat_trim.f k l0).bind fun t286 => ((nat_trim.f k l1).bind fun t289 => (if (t289.length : Int) = 0 then (some (([] : List Int), ([] : List Int), 3)) else ((nat_divmod.f k t286 t289).bind fun bt292 => (some (bt292.1, bt292.2, 0)))))
theorem nat_DivMod.mono : ∀ a0 a1 k, LeO (nat_DivMod.f k a0 a1) (nat_DivMod.f (k + 1) a0 a1) := by
 intro a0 a1 k
 unfold nat_DivMod.f
 repeat' first
   | (with_reducible exact nat_divmod.mono _ _ _)
   | (with_reducible exact nat_trim.mono _ _)
   | (with_reducible exact LeO.refl _)
   | (with_reducible refine LeO.ite ?_ ?_)
   | (with_reducible refine LeO.bind ?_ (fun _ => ?_))
set_option maxHeartbeats 8000000 in
set_option maxRecDepth 100000 in
theorem nat_DivMod.calls (k : Nat) (A0 : Option Addr) (c0 : Nat) (l0 : List Int) (A1 : Option Addr) (c1 : Nat) (l1 : List Int) (r1 : List Int) (r2 : List Int) (r3 : Int) (w : World) (hr0 : Kd.C (Kd.int .u32) w A0 l0.length l0) (hc0 : l0.length ≤ c0) (hr1 : Kd.C (Kd.int .u32) w A1 l1.length l1) (hc1 : l1.length ≤ c1) (h : nat_DivMod.f k l0 l1 = some (r1, r2, r3)) :
  Calls Try.prog 46 #[.slice A0 l0.length c0, .slice A1 l1.length c1] w fun e w' => ∃ v0_ v1_ : Value, e = .returned (.tuple #[v0_, v1_, .int .i64 r3]) ∧ Kd.R (Kd.int .u32) 78 w' w.heap.size (fun k_ => some k_ ≠ (v1_ : Value).ownBlock) v0_ r1 ∧ Kd.R (Kd.int .u32) 78 w' w.heap.size (fun k_ => some k_ ≠ (v0_ : Value).ownBlock) v1_ r2 ∧ Below w.heap.size w w' := by
 have HR0 := am hr0
 have HC0 := am hc0
 clear hr0 hc0
 have HR1 := am hr1
 have HC1 := am hc1
 clear hr1 hc1
 have HB := am (Below.refl w.heap.size w)
 have H : ((nat_trim.f k l0).bind fun t286 => ((nat_trim.f k l1).bind fun t289 => (if (t289.length : Int) = 0 then (some (([] : List Int), ([] : List Int), 3)) else ((nat_divmod.f k t286 t289).bind fun bt292 => (some (bt292.1, bt292.2, 0)))))) = some (r1, r2, r3) := h
 clear h
 obtain ⟨t286, A3, H⟩ := bindE H
 obtain ⟨t289, A4, H⟩ := bindE H
 by_cases c5 : (t289.length : Int) = 0
 ·
  rw [if_pos c5] at H
  have c5b0 : ((t289.length : Int) == 0) = true := beq_iff_eq.mpr c5
  have c5b1 : ((t289.length : Int) != 0) = false := bne_eq_false_iff_eq.mpr c5
  clear c5
  simp only [Option.some.injEq, Prod.mk.injEq] at H
  obtain ⟨rfl, rfl, rfl⟩ := H
  go_enter Try.func46, Try.ntmps46
  go_wp2_with (first | ((with_reducible refine gate_callee (f := 79) rfl ?_); refine goesL_ (some 10) rfl rfl Try.func79 (by kernel_rfl) rfl #[.slice A0 l0.length c0] rfl (by (try simp only [List.map_toArray, List.map_cons, List.map_nil]); rfl) ?_; (with_reducible refine (nat_trim.calls k (fun k_ => k_ < w.heap.size) _ _ l0 t286 _ ?side1 A3.out).mono ?_); (case side1 => exact Kd.V_mk HC0.out (Kd.F_below (Kd.C_F (Kd.heap_int .u32) HR0.out) HB.out)); rintro e w6 ⟨v287, rfl, ho0, hb⟩; refine ⟨_, rfl, ?_⟩; have HO288 := am (Kd.V_lower (Kd.V_mono (ok' := fun k_ => True) ho0 (fun k_ hk_ => trivial)) (below_size HB.out)); replace HB := am (below_step HB.out hb); (try clear hb); (try clear ho0)) | ((with_reducible refine gate_callee (f := 79) rfl ?_); refine goesL_ (some 12) rfl rfl Try.func79 (by kernel_rfl) rfl #[.slice A1 l1.length c1] rfl (by (try simp only [List.map_toArray, List.map_cons, List.map_nil]); rfl) ?_; (with_reducible refine (nat_trim.calls k (fun k_ => k_ < w.heap.size) _ _ l1 t289 _ ?side1 A4.out).mono ?_); (case side1 => exact Kd.V_mk HC1.out (Kd.F_below (Kd.C_F (Kd.heap_int .u32) HR1.out) HB.out)); rintro e w7 ⟨v290, rfl, ho0, hb⟩; refine ⟨_, rfl, ?_⟩; replace HO288 := am (Kd.V_below HO288.out hb); have HO291 := am (Kd.V_lower (Kd.V_mono (ok' := fun k_ => True) ho0 (fun k_ hk_ => trivial)) (below_size HB.out)); replace HB := am (below_step HB.out hb); (try clear hb); (try clear ho0); obtain ⟨Ao8, co8, eo8⟩ := Kd.V_slice HO291.out; subst eo8))
  go_ret3
  exact ⟨_, _, by rfl, by exact Kd.R_nil _ _ _ _ _, by exact Kd.R_nil _ _ _ _ _, by with_reducible exact HB.out⟩
 ·
  rw [if_neg c5] at H
  have c5b0 : ((t289.length : Int) == 0) = false := beq_eq_false_iff_ne.mpr c5
  have c5b1 : ((t289.length : Int) != 0) = true := bne_iff_ne.mpr c5
  have c5b2 : ¬ (t289 = []) := fun h_ => c5 (by rw [h_]; rfl)
  obtain ⟨⟨t292, t293⟩, A9, H⟩ := bindE H
  replace H : (some (t292, t293, 0)) = some (r1, r2, r3) := H
  simp only [Option.some.injEq, Prod.mk.injEq] at H
  obtain ⟨rfl, rfl, rfl⟩ := H
  go_enter Try.func46, Try.ntmps46
  go_wp2_with (first | ((with_reducible refine gate_callee (f := 79) rfl ?_); refine goesL_ (some 10) rfl rfl Try.func79 (by kernel_rfl) rfl #[.slice A0 l0.length c0] rfl (by (try simp only [List.map_toArray, List.map_cons, List.map_nil]); rfl) ?_; (with_reducible refine (nat_trim.calls k (fun k_ => k_ < w.heap.size) _ _ l0 t286 _ ?side1 A3.out).mono ?_); (case side1 => exact Kd.V_mk HC0.out (Kd.F_below (Kd.C_F (Kd.heap_int .u32) HR0.out) HB.out)); rintro e w10 ⟨v287, rfl, ho0, hb⟩; refine ⟨_, rfl, ?_⟩; have HO288 := am (Kd.V_lower (Kd.V_mono (ok' := fun k_ => True) ho0 (fun k_ hk_ => trivial)) (below_size HB.out)); replace HB := am (below_step HB.out hb); (try clear hb); (try clear ho0)) | ((with_reducible refine gate_callee (f := 79) rfl ?_); refine goesL_ (some 12) rfl rfl Try.func79 (by kernel_rfl) rfl #[.slice A1 l1.length c1] rfl (by (try simp only [List.map_toArray, List.map_cons, List.map_nil]); rfl) ?_; (with_reducible refine (nat_trim.calls k (fun k_ => k_ < w.heap.size) _ _ l1 t289 _ ?side1 A4.out).mono ?_); (case side1 => exact Kd.V_mk HC1.out (Kd.F_below (Kd.C_F (Kd.heap_int .u32) HR1.out) HB.out)); rintro e w11 ⟨v290, rfl, ho0, hb⟩; refine ⟨_, rfl, ?_⟩; replace HO288 := am (Kd.V_below HO288.out hb); have HO291 := am (Kd.V_lower (Kd.V_mono (ok' := fun k_ => True) ho0 (fun k_ hk_ => trivial)) (below_size HB.out)); replace HB := am (below_step HB.out hb); (try clear hb); (try clear ho0); obtain ⟨Ao12, co12, eo12⟩ := Kd.V_slice HO291.out; subst eo12; obtain ⟨Ao13, co13, eo13⟩ := Kd.V_slice HO288.out; subst eo13) | ((with_reducible refine gate_callee (f := 80) rfl ?_); refine goesL_ (some 19) rfl rfl Try.func80 (by kernel_rfl) rfl #[.slice Ao13 t286.length co13, .slice Ao12 t289.length co12] rfl (by (try simp only [List.map_toArray, List.map_cons, List.map_nil]); rfl) ?_; (with_reducible refine (nat_divmod.calls k _ _ t286 _ _ t289 t292 t293 _ ?side1 ?side2 ?side3 ?side4 A9.out).mono ?_); (case side1 => exact (Kd.V_reads' HO288.out).2.2); (case side2 => exact (Kd.V_reads' HO288.out).2.1); (case side3 => exact (Kd.V_reads' HO291.out).2.2); (case side4 => exact (Kd.V_reads' HO291.out).2.1); rintro e w14 ⟨v294, v296, rfl, ho0, ho1, hb⟩; refine ⟨_, rfl, ?_⟩; replace HO288 := am (Kd.V_mono (Kd.V_told (Kd.V_told (Kd.V_old HO288.out hb) (Kd.R_base ho0)) (Kd.R_base ho1)) (fun _ h_ => h_.1)); replace HO291 := am (Kd.V_mono (Kd.V_told (Kd.V_told (Kd.V_old HO291.out hb) (Kd.R_base ho0)) (Kd.R_base ho1)) (fun _ h_ => h_.1)); have HO295 := am (Kd.R_lower ho0 (below_size HB.out)); have HO297 := am (Kd.R_lower ho1 (below_size HB.out)); replace HB := am (below_step HB.out hb); (try clear hb); (try clear ho0); (try clear ho1)))
  go_ret3
  exact ⟨_, _, by rfl, by exact HO295.out, by exact HO297.out, by with_reducible exact HB.out⟩

/-! ### slices_Reverse_byte_byte: function 99 -/
def slices_Reverse_byte_byte.l0 : Nat → List Int → Int → Int → Option (List Int)
 | 0, _, _, _ => none
 | k + 1, x0, x2, x3 => if x2 < x3 then (if 0 ≤ x3 then (if x3 < (x0.length : Int) then (if 0 ≤ x2 then (if x2 < (x0.length : Int) then (slices_Reverse_byte_byte.l0 k ((x0.set (x2 : Int).toNat (rd x0 x3)).set (x3 : Int).toNat (rd x0 x2)) (wrap64 (x2 + 1)) (wrap64 (x3 - 1))) else (none)) else (none)) else (none)) else (none)) else (some x0)
def slices_Reverse_byte_byte.f (k : Nat) (l0 : List Int) : Option (List Int) := slices_Reverse_byte_byte.l0 k l0 0 (wrap64 ((l0.length : Int) - 1))
theorem slices_Reverse_byte_byte.mono_l : ∀ k, (∀ y0 y1 y2, LeO (slices_Reverse_byte_byte.l0 k y0 y1 y2) (slices_Reverse_byte_byte.l0 (k + 1) y0 y1 y2))
 | 0 => fun _ _ _ r h => by simp [slices_Reverse_byte_byte.l0] at h
 | k + 1 => by
  have ih0 := slices_Reverse_byte_byte.mono_l k
  ·
   intro y0 y1 y2
   unfold slices_Reverse_byte_byte.l0
   repeat' first
   | (with_reducible exact ih0 _ _ _)
   | (with_reducible exact LeO.refl _)
   | (with_reducible refine LeO.ite ?_ ?_)
theorem slices_Reverse_byte_byte.mono : ∀ a0 k, LeO (slices_Reverse_byte_byte.f k a0) (slices_Reverse_byte_byte.f (k + 1) a0) := by
 intro a0 k
 have ih0 := slices_Reverse_byte_byte.mono_l k
 unfold slices_Reverse_byte_byte.f
 repeat' first
   | (with_reducible exact ih0 _ _ _)
def slices_Reverse_byte_byte.T3 : Bool × List (List Nat × List Nat) := (true, [([], []), ([], []), ([], []), ([], []), ([], []), ([], []), ([4, 5], [4, 5]), ([6], [6]), ([], []), ([], []), ([8, 9], [8, 9]), ([10], [10]), ([0, 1, 0, 1, 4, 5, 6, 7, 11], [0, 1]), ([12, 7, 0, 1, 4, 5, 6, 7, 11], [7, 12]), ([2, 3, 0, 1, 2, 3, 4, 5, 6, 7, 8, 9, 10, 11, 12, 13], [2, 3]), ([14, 11, 13, 0, 1, 2, 3, 4, 5, 6, 7, 8, 9, 10, 11, 12, 13], [11, 14])])
def slices_Reverse_byte_byte.B3 : List Nat := [0, 0, 0, 0, 0, 0, 48, 112, 0, 0, 768, 1792, 4083, 8179, 16383, 32767]
theorem slices_Reverse_byte_byte.tab3 : rtab .any (opsOf Try.f99 3) = slices_Reverse_byte_byte.T3 := by kernel_rfl
theorem slices_Reverse_byte_byte.bits3 : waitsOk slices_Reverse_byte_byte.T3.2 slices_Reverse_byte_byte.B3 = true := by kernel_rfl
set_option maxHeartbeats 8000000 in
set_option maxRecDepth 100000 in
theorem slices_Reverse_byte_byte.calls (k : Nat) (P0_ : Nat → Prop) (u9000_ : Value) (l0 : List Int) (r : List Int) (w0 w : World) (hB : Below w0.heap.size w0 w) (ho0 : Kd.R (Kd.int .u8) 5 w w0.heap.size P0_ u9000_ l0) (h : slices_Reverse_byte_byte.f k l0 = some r) :
  Calls Try.prog 99 #[u9000_] w fun e w' => e = .returned (.tuple #[]) ∧ Kd.R (Kd.int .u8) 5 w' w0.heap.size (fun k_ => (P0_ k_ ∨ w.heap.size ≤ k_)) u9000_ r ∧ Below w0.heap.size w0 w' ∧ Kept w w' (fun k_ => P0_ k_) := by
 have HO0 := am (show Kd.R (Kd.int .u8) 5 w w0.heap.size (fun k_ => (P0_ k_ ∨ w.heap.size ≤ k_)) u9000_ l0 from Kd.R_mono ho0 (fun k_ hk => (.inl hk)))
 have HK := am (Kept.refl w (fun k_ => P0_ k_))
 have HW0 := am hB.size
 have HB := am hB
 clear hB
 have H : (slices_Reverse_byte_byte.l0 k l0 0 (wrap64 ((l0.length : Int) - 1))) = some r := h
 clear h
 have H' := am H
 clear H
 obtain ⟨Ao2, co2, eo2⟩ := Kd.R_slice HO0.out
 subst eo2
 go_enter Try.func99, Try.ntmps99
 go_wp2
 go_loopg [2, 3] k (fun kq v2 v3 w' => ∃ (x0_1 : List Int) (x2_1 : Int) (x3_1 : Int), v2 = .int .i64 x2_1 ∧ v3 = .int .i64 x3_1 ∧ Aside0 (slices_Reverse_byte_byte.l0 kq x0_1 x2_1 x3_1 = some r) ∧ Aside0 (kq ≤ k) ∧ Aside0 (Kd.R (Kd.int .u8) 5 w' w0.heap.size (fun k_ => (P0_ k_ ∨ w.heap.size ≤ k_)) (.slice Ao2 l0.length co2) x0_1) ∧ Aside0 (Kept w w' (fun k_ => P0_ k_)) ∧ Aside0 (Below w0.heap.size w0 w'))
 case atStart => exact ⟨(l0), (0), (wrap64 ((l0.length : Int) - 1)), (by rfl), (by rfl), H', ⟨Nat.le_refl _⟩, ⟨by exact HO0.out⟩, ⟨by with_reducible exact HK.out⟩, ⟨by with_reducible exact HB.out⟩⟩
 case round =>
  clear H'
  obtain ⟨x0_1, x2_1, x3_1, rfl, rfl, HA, HK1, HO_0, HK, HB⟩ := hrel
  have hl0_1 := (Kd.R_reads' HO_0.out).1
  rw [hl0_1] at HO_0
  (try simp only [hl0_1])
  cases gk with
  | zero => exact absurd HA.out (by simp [slices_Reverse_byte_byte.l0])
  | succ k1 =>
   have H := HA.out
   clear HA
   simp only [slices_Reverse_byte_byte.l0] at H
   by_cases c3 : x2_1 < x3_1
   ·
    rw [if_pos c3] at H
    have c3b0 : decide (x2_1 < x3_1) = true := decide_eq_true c3
    clear c3
    obtain ⟨c4, H⟩ := iteS H
    have c4b0 : decide (0 ≤ x3_1) = true := decide_eq_true c4
    clear c4
    obtain ⟨c5, H⟩ := iteS H
    have c5b0 : decide (x3_1 < (x0_1.length : Int)) = true := decide_eq_true c5
    clear c5
    obtain ⟨c6, H⟩ := iteS H
    have c6b0 : decide (0 ≤ x2_1) = true := decide_eq_true c6
    clear c6
    obtain ⟨c7, H⟩ := iteS H
    have c7b0 : decide (x2_1 < (x0_1.length : Int)) = true := decide_eq_true c7
    clear c7
    obtain ⟨y418, hy418⟩ : ∃ y_ : List Int, y_ = (x0_1.set (x2_1 : Int).toNat (rd x0_1 x3_1)) := ⟨_, rfl⟩
    replace H : (slices_Reverse_byte_byte.l0 k1 (y418.set (x3_1 : Int).toNat (rd x0_1 x2_1)) (wrap64 (x2_1 + 1)) (wrap64 (x3_1 - 1))) = some r := by (rw [hy418]; with_reducible exact H)
    have Ny418 := am hy418
    clear hy418
    obtain ⟨y419, hy419⟩ : ∃ y_ : List Int, y_ = (y418.set (x3_1 : Int).toNat (rd x0_1 x2_1)) := ⟨_, rfl⟩
    replace H : (slices_Reverse_byte_byte.l0 k1 y419 (wrap64 (x2_1 + 1)) (wrap64 (x3_1 - 1))) = some r := by (rw [hy419]; with_reducible exact H)
    have Ny419 := am hy419
    clear hy419
    have H' := am H
    clear H
    try go_wp2
    replace HO_0 := am (Kd.R_drew HO_0.out)
    replace HK := am (Kept.drew HK.out)
    replace HB := am (below_drew1 HB.out)
    have p416 : 0 ≤ (x3_1 : Int) := of_decide_eq_true (by (with_reducible assumption))
    have q416 : x3_1 < (x0_1.length : Int) := of_decide_eq_true (by (with_reducible assumption))
    obtain ⟨ad416, e416, hx416_0⟩ := Kd.at_int (Kd.R_reads' HO_0.out).2.2 x3_1 p416 q416
    cases e416
    replace p416 := eq_true p416
    replace q416 := eq_true q416
    have p417 : 0 ≤ (x2_1 : Int) := of_decide_eq_true (by (with_reducible assumption))
    have q417 : x2_1 < (x0_1.length : Int) := of_decide_eq_true (by (with_reducible assumption))
    obtain ⟨ad417, e417, hx417_0⟩ := Kd.at_int (Kd.R_reads' HO_0.out).2.2 x2_1 p417 q417
    obtain rfl : ad416 = ad417 := (by injection e417)
    replace p417 := eq_true p417
    replace q417 := eq_true q417
    have p8 : 0 ≤ (x2_1 : Int) := of_decide_eq_true (by (with_reducible assumption))
    have q8 : (x2_1 : Int) < ((x0_1.length : Int) : Int) := of_decide_eq_true (by (with_reducible assumption))
    obtain ⟨go8, co8, eo8, gb8, gl8, cl8, HG8⟩ := Kd.R_form HO_0.out (by omega)
    (cases eo8)
    have GB8 := am gb8
    have GG8 := am HG8
    clear gb8 gl8 HG8
    have HMgo8 := am (show (P0_ go8 ∨ w.heap.size ≤ go8) from (HO_0.out.1 _ rfl))
    (simp only [add_plain] at hx416_0)
    (simp only [add_plain] at hx417_0)
    obtain ⟨hx8_0, hf8_0⟩ := Kd.R_celln 0 HO_0.out (x2_1 : Int) p8 q8
    replace p8 := eq_true p8
    replace q8 := eq_true q8
    have HP11 := Kd.R_putn HO_0.out (x2_1 : Int) (rd x0_1 x3_1)
    rw [← Ny418.out] at HP11
    have HQ11 := am HP11
    clear HP11
    have p9 : 0 ≤ (x3_1 : Int) := of_decide_eq_true (by (with_reducible assumption))
    have q9 : (x3_1 : Int) < ((x0_1.length : Int) : Int) := of_decide_eq_true (by (with_reducible assumption))
    obtain ⟨hx9_0, hf9_0⟩ := Kd.R_celln 0 HQ11.out (x3_1 : Int) p9 q9
    replace p9 := eq_true p9
    replace q9 := eq_true q9
    have HP12 := Kd.R_putn HQ11.out (x3_1 : Int) (rd x0_1 x2_1)
    rw [← Ny419.out] at HP12
    have HQ12 := am HP12
    clear HP12
    refine start_ (n := 16) (S := fun w' => w'.cell? ⟨go8, (x3_1).toNat, none⟩ = some (.int .u8 (rd x0_1 x3_1)) ∧ w'.cell? ⟨go8, (x2_1).toNat, none⟩ = some (.int .u8 (rd x0_1 x2_1))) (ds := [13, 15]) #[false, false, false, false, false, false, false, false, false, false, false, false, false, false, false, false] (by kernel_rfl) rfl rfl ⟨hx416_0, hx417_0⟩ (fun hHeld => ?_); refine with_tabW slices_Reverse_byte_byte.tab3 slices_Reverse_byte_byte.bits3 (fun HT_ HW_ => ?_)
    generalize wr.drew = w10 at HO_0 HK HB GG8 HQ11 HQ12 hf8_0 hf9_0 hx416_0 hx417_0 hx8_0 hx9_0 hHeld ⊢
    refine pure_ (i := 0) (N := some 14) (v := ?_) (a' := ?_) #[true, false, false, false, false, false, false, false, false, false, false, false, false, false, false, false] rfl rfl (any_of HT_.out (by kernel_rfl)) (fun _ _ _ h => h) (Or.inl ⟨by rfl, ?_⟩) ?_ ?_
    rotate_left
    ·
     intro w'
     go_simp
     with_reducible rfl
    rotate_left
    ·
     simp only [Act.put, sI_, s0_, s1_, i64_w, i32_w]
     rfl
    refine pure_ (i := 1) (N := some 15) (v := ?_) (a' := ?_) #[true, true, false, false, false, false, false, false, false, false, false, false, false, false, false, false] rfl rfl (any_of HT_.out (by kernel_rfl)) (fun _ _ _ h => h) (Or.inl ⟨by rfl, ?_⟩) ?_ ?_
    rotate_left
    ·
     intro w'
     go_simp
     with_reducible rfl
    rotate_left
    ·
     simp only [Act.put, sI_, s0_, s1_, i64_w, i32_w]
     rfl
    refine pure_ (i := 2) (N := some 16) (v := ?_) (a' := ?_) #[true, true, true, false, false, false, false, false, false, false, false, false, false, false, false, false] rfl rfl (any_of HT_.out (by kernel_rfl)) (fun _ _ _ h => h) (Or.inl ⟨by rfl, ?_⟩) ?_ ?_
    rotate_left
    ·
     intro w'
     go_simp
     with_reducible rfl
    rotate_left
    ·
     simp only [Act.put, sI_, s0_, s1_, i64_w, i32_w]
     rfl
    refine pure_ (i := 3) (N := some 17) (v := ?_) (a' := ?_) #[true, true, true, true, false, false, false, false, false, false, false, false, false, false, false, false] rfl rfl (any_of HT_.out (by kernel_rfl)) (fun _ _ _ h => h) (Or.inl ⟨by rfl, ?_⟩) ?_ ?_
    rotate_left
    ·
     intro w'
     go_simp
     with_reducible rfl
    rotate_left
    ·
     simp only [Act.put, sI_, s0_, s1_, i64_w, i32_w]
     rfl
    refine pure_ (i := 4) (N := some 18) (v := ?_) (a' := ?_) #[true, true, true, true, true, false, false, false, false, false, false, false, false, false, false, false] rfl rfl (any_of HT_.out (by kernel_rfl)) (fun _ _ _ h => h) (Or.inl ⟨by rfl, ?_⟩) ?_ ?_
    rotate_left
    ·
     intro w'
     go_simp
     with_reducible rfl
    rotate_left
    ·
     simp only [Act.put, sI_, s0_, s1_, i64_w, i32_w]
     rfl
    refine pure_ (i := 5) (N := some 19) (v := ?_) (a' := ?_) #[true, true, true, true, true, true, false, false, false, false, false, false, false, false, false, false] rfl rfl (any_of HT_.out (by kernel_rfl)) (fun _ _ _ h => h) (Or.inl ⟨by rfl, ?_⟩) ?_ ?_
    rotate_left
    ·
     intro w'
     go_simp
     with_reducible rfl
    rotate_left
    ·
     simp only [Act.put, sI_, s0_, s1_, i64_w, i32_w]
     rfl
    refine pure_ (i := 6) (N := some 20) (v := ?_) (a' := ?_) #[true, true, true, true, true, true, true, false, false, false, false, false, false, false, false, false] rfl rfl (any_of HT_.out (by kernel_rfl)) (fun _ _ _ h => h) (Or.inl ⟨by rfl, ?_⟩) ?_ ?_
    rotate_left
    ·
     intro w'
     go_simp
     with_reducible rfl
    rotate_left
    ·
     simp only [Act.put, sI_, s0_, s1_, i64_w, i32_w]
     rfl
    refine pure_ (i := 8) (N := some 22) (v := ?_) (a' := ?_) #[true, true, true, true, true, true, true, false, true, false, false, false, false, false, false, false] rfl rfl (any_of HT_.out (by kernel_rfl)) (fun _ _ _ h => h) (Or.inl ⟨by rfl, ?_⟩) ?_ ?_
    rotate_left
    ·
     intro w'
     go_simp
     with_reducible rfl
    rotate_left
    ·
     simp only [Act.put, sI_, s0_, s1_, i64_w, i32_w]
     rfl
    refine pure_ (i := 9) (N := some 23) (v := ?_) (a' := ?_) #[true, true, true, true, true, true, true, false, true, true, false, false, false, false, false, false] rfl rfl (any_of HT_.out (by kernel_rfl)) (fun _ _ _ h => h) (Or.inl ⟨by rfl, ?_⟩) ?_ ?_
    rotate_left
    ·
     intro w'
     go_simp
     with_reducible rfl
    rotate_left
    ·
     simp only [Act.put, sI_, s0_, s1_, i64_w, i32_w]
     rfl
    refine pure_ (i := 10) (N := some 24) (v := ?_) (a' := ?_) #[true, true, true, true, true, true, true, false, true, true, true, false, false, false, false, false] rfl rfl (any_of HT_.out (by kernel_rfl)) (fun _ _ _ h => h) (Or.inl ⟨by rfl, ?_⟩) ?_ ?_
    rotate_left
    ·
     intro w'
     go_simp
     with_reducible rfl
    rotate_left
    ·
     simp only [Act.put, sI_, s0_, s1_, i64_w, i32_w]
     rfl
    refine take_ (i := 7) (N := some 21) (v := ?_) (a' := ?_) #[true, true, true, true, true, true, true, true, true, true, true, false, false, false, false, false] rfl rfl (take_ofW HT_.out HW_.out (by kernel_rfl)) (fun _ _ _ h => h) (Or.inl ⟨by rfl, ?_⟩) hHeld ?_ ?_
    rotate_left
    ·
     rintro w' ⟨s0, s1⟩
     go_simp
     with_reducible rfl
    rotate_left
    ·
     simp only [Act.put, sI_, s0_, s1_, i64_w, i32_w]
     rfl
    refine take_ (i := 11) (N := some 25) (v := ?_) (a' := ?_) #[true, true, true, true, true, true, true, true, true, true, true, true, false, false, false, false] rfl rfl (take_ofW HT_.out HW_.out (by kernel_rfl)) (fun _ _ _ h => h) (Or.inl ⟨by rfl, ?_⟩) hHeld ?_ ?_
    rotate_left
    ·
     rintro w' ⟨s0, s1⟩
     go_simp
     with_reducible rfl
    rotate_left
    ·
     simp only [Act.put, sI_, s0_, s1_, i64_w, i32_w]
     rfl
    refine pure_ (i := 12) (N := some 26) (v := ?_) (a' := ?_) #[true, true, true, true, true, true, true, true, true, true, true, true, true, false, false, false] rfl rfl (any_of HT_.out (by kernel_rfl)) (fun _ _ _ h => h) (Or.inl ⟨by rfl, ?_⟩) ?_ ?_
    rotate_left
    ·
     intro w'
     go_simp
     with_reducible rfl
    rotate_left
    ·
     simp only [Act.put, sI_, s0_, s1_, i64_w, i32_w]
     rfl
    refine last_ (i := 13) (N := none) #[true, true, true, true, true, true, true, true, true, true, true, true, true, true, false, false] rfl rfl (one_of HT_.out (by kernel_rfl)) (by decide) (fun K hK => ?_)
    refine skip_ (w1 := ?_) (by rfl) rfl ?_ ?_
    rotate_left
    ·
     go_simp
     rfl
    refine hK.out _ _ ?_
    clear hK K
    refine pure_ (i := 14) (N := some 27) (v := ?_) (a' := ?_) #[true, true, true, true, true, true, true, true, true, true, true, true, true, true, true, false] rfl rfl (any_of HT_.out (by kernel_rfl)) (fun _ _ _ h => h) (Or.inl ⟨by rfl, ?_⟩) ?_ ?_
    rotate_left
    ·
     intro w'
     go_simp
     with_reducible rfl
    rotate_left
    ·
     simp only [Act.put, sI_, s0_, s1_, i64_w, i32_w]
     rfl
    refine last_ (i := 15) (N := none) #[true, true, true, true, true, true, true, true, true, true, true, true, true, true, true, true] rfl rfl (one_of HT_.out (by kernel_rfl)) (by decide) (fun K hK => ?_)
    refine skip_ (w1 := ?_) (by rfl) rfl ?_ ?_
    rotate_left
    ·
     go_simp
     rfl
    refine hK.out _ _ ?_
    clear hK K
    refine done_ (done_of HT_.out (by kernel_rfl)) ?_
    try go_wp2
    (try simp only [← hl0_1])
    go_roundg k1
    case measure => have := HK1.out; omega
    case rel => exact ⟨(y419), (wrap64 (x2_1 + 1)), (wrap64 (x3_1 - 1)), (by rfl), (by rfl), H', ⟨by have := HK1.out; omega⟩, ⟨by (try simp only [hl0_1]); exact HQ12.out⟩, ⟨by repeat ((with_reducible first | exact HK.out | refine Kept.setCell ?_ HMgo8.out _))⟩, ⟨by repeat ((with_reducible first | exact HB.out | refine below_set ?_ GB8.out))⟩⟩
   ·
    rw [if_neg c3] at H
    have c3b0 : decide (x2_1 < x3_1) = false := decide_eq_false c3
    clear c3
    obtain rfl := Option.some.inj H
    go_wp2
    go_end0
    exact ⟨by rfl, (by exact HO_0.out), by with_reducible exact HB.out, by with_reducible exact HK.out⟩

/-! ### nat_show: function 86 -/
mutual
def nat_show.l0 : Nat → List Int → List Int → Option (ByteArray)
 | 0, _, _ => none
 | k + 1, x0, x3 => if (x0.length : Int) > 0 then ((nat_short.f k x0 1000000000).bind fun bt426 => ((nat_trim_own.f k bt426.2).bind fun t428 => (nat_show.l1 k t428 x3 bt426.1 0))) else (nat_show.l2 k x3)
def nat_show.l1 : Nat → List Int → List Int → Int → Int → Option (ByteArray)
 | 0, _, _, _, _ => none
 | k + 1, x0, x3, x4, x15 => if x15 < 9 then (if x3.length < 140737488355328 then (nat_show.l1 k x0 (x3 ++ [(48 + (Int.tmod x4 10)) % 256]) ((Int.tdiv x4 10) % 4294967296) (wrap64 (x15 + 1))) else (none)) else (nat_show.l0 k x0 x3)
def nat_show.l2 : Nat → List Int → Option (ByteArray)
 | 0, _ => none
 | k + 1, x3 => if (x3.length : Int) > 0 then (if 0 ≤ (wrap64 ((x3.length : Int) - 1)) then (if (wrap64 ((x3.length : Int) - 1)) < (x3.length : Int) then (if (rd x3 (wrap64 ((x3.length : Int) - 1))) = 48 then (if (wrap64 ((x3.length : Int) - 1)) ≤ (x3.length : Int) then (nat_show.l2 k (x3.take ((wrap64 ((x3.length : Int) - 1)) : Int).toNat)) else (none)) else (if (x3.length : Int) = 0 then (some (⟨#[48]⟩ : ByteArray)) else ((slices_Reverse_byte_byte.f k x3).bind fun t438 => (some (strOfNums t438))))) else (none)) else (none)) else (if (x3.length : Int) = 0 then (some (⟨#[48]⟩ : ByteArray)) else ((slices_Reverse_byte_byte.f k x3).bind fun t439 => (some (strOfNums t439))))
end
def nat_show.f (k : Nat) (l0 : List Int) : Option (ByteArray) := (nat_trim.f k l0).bind fun t420 => ((api_Nat_uint32.f t420).bind fun t423 => (nat_show.l0 k t423 ([] : List Int)))
theorem nat_show.mono_l : ∀ k, (∀ y0 y1, LeO (nat_show.l0 k y0 y1) (nat_show.l0 (k + 1) y0 y1)) ∧ (∀ y0 y1 y2 y3, LeO (nat_show.l1 k y0 y1 y2 y3) (nat_show.l1 (k + 1) y0 y1 y2 y3)) ∧ (∀ y0, LeO (nat_show.l2 k y0) (nat_show.l2 (k + 1) y0))
 | 0 => ⟨fun _ _ r h => by simp [nat_show.l0] at h, fun _ _ _ _ r h => by simp [nat_show.l1] at h, fun _ r h => by simp [nat_show.l2] at h⟩
 | k + 1 => by
  obtain ⟨ih0, ih1, ih2⟩ := nat_show.mono_l k
  refine ⟨?_, ?_, ?_⟩
  ·
   intro y0 y1
   unfold nat_show.l0
   repeat' first
   | (with_reducible exact ih1 _ _ _ _)
   | (with_reducible exact ih2 _)
   | (with_reducible exact nat_short.mono _ _ _)
   | (with_reducible exact nat_trim_own.mono _ _)
   | (with_reducible refine LeO.ite ?_ ?_)
   | (with_reducible refine LeO.bind ?_ (fun _ => ?_))
  ·
   intro y0 y1 y2 y3
   unfold nat_show.l1
   repeat' first
   | (with_reducible exact ih0 _ _)
   | (with_reducible exact ih1 _ _ _ _)
   | (with_reducible exact LeO.refl _)
   | (with_reducible refine LeO.ite ?_ ?_)
  ·
   intro y0
   unfold nat_show.l2
   repeat' first
   | (with_reducible exact ih2 _)
   | (with_reducible exact slices_Reverse_byte_byte.mono _ _)
   | (with_reducible exact LeO.refl _)
   | (with_reducible refine LeO.ite ?_ ?_)
   | (with_reducible refine LeO.bind ?_ (fun _ => ?_))
theorem nat_show.mono : ∀ a0 k, LeO (nat_show.f k a0) (nat_show.f (k + 1) a0) := by
 intro a0 k
 obtain ⟨ih0, ih1, ih2⟩ := nat_show.mono_l k
 unfold nat_show.f
 repeat' first
   | (with_reducible exact ih0 _ _)
   | (with_reducible exact nat_trim.mono _ _)
   | (with_reducible exact LeO.refl _)
   | (with_reducible refine LeO.bind ?_ (fun _ => ?_))
set_option maxHeartbeats 8000000 in
set_option maxRecDepth 100000 in
theorem nat_show.calls (k : Nat) (A0 : Option Addr) (c0 : Nat) (l0 : List Int) (r : ByteArray) (w : World) (hr0 : Kd.C (Kd.int .u32) w A0 l0.length l0) (hc0 : l0.length ≤ c0) (h : nat_show.f k l0 = some r) :
  Calls Try.prog 86 #[.slice A0 l0.length c0] w fun e w' => e = .returned (.string r) ∧ Below w.heap.size w w' := by
 have HR0 := am hr0
 have HC0 := am hc0
 clear hr0 hc0
 have HB := am (Below.refl w.heap.size w)
 have H : ((nat_trim.f k l0).bind fun t420 => ((api_Nat_uint32.f t420).bind fun t423 => (nat_show.l0 k t423 ([] : List Int)))) = some r := h
 clear h
 obtain ⟨t420, A2, H⟩ := bindE H
 obtain ⟨t423, A3, H⟩ := bindE H
 have H' := am H
 clear H
 go_enter Try.func86, Try.ntmps86
 go_wp2_with (first | ((with_reducible refine gate_callee (f := 79) rfl ?_); refine goesL_ (some 6) rfl rfl Try.func79 (by kernel_rfl) rfl #[.slice A0 l0.length c0] rfl (by (try simp only [List.map_toArray, List.map_cons, List.map_nil]); rfl) ?_; (with_reducible refine (nat_trim.calls k (fun k_ => k_ < w.heap.size) _ _ l0 t420 _ ?side1 A2.out).mono ?_); (case side1 => exact Kd.V_mk HC0.out (Kd.F_below (Kd.C_F (Kd.heap_int .u32) HR0.out) HB.out)); rintro e w4 ⟨v421, rfl, ho0, hb⟩; refine ⟨_, rfl, ?_⟩; have HO422 := am (Kd.V_lower (Kd.V_mono (ok' := fun k_ => True) ho0 (fun k_ hk_ => trivial)) (below_size HB.out)); replace HB := am (below_step HB.out hb); (try clear hb); (try clear ho0); obtain ⟨Ao5, co5, eo5⟩ := Kd.V_slice HO422.out; subst eo5) | ((with_reducible refine gate_callee (f := 84) rfl ?_); refine goesL_ (some 7) rfl rfl Try.func84 (by kernel_rfl) rfl #[.slice Ao5 t420.length co5] rfl (by (try simp only [List.map_toArray, List.map_cons, List.map_nil]); rfl) ?_; (with_reducible refine (api_Nat_uint32.calls _ _ t420 t423 _ ?side1 ?side2 A3.out).mono ?_); (case side1 => exact (Kd.V_reads' HO422.out).2.2); (case side2 => exact (Kd.V_reads' HO422.out).2.1); rintro e w6 ⟨v424, rfl, ho0, hb⟩; refine ⟨_, rfl, ?_⟩; replace HO422 := am (Kd.V_elder' HO422.out (Kd.R_base ho0) hb); have HO425 := am (Kd.R_lower ho0 (below_size HB.out)); replace HB := am (below_step HB.out hb); (try clear hb); (try clear ho0)))
 go_loopg [0, 3] k (fun kq v0 v3 w' => ∃ (x0_1 : List Int) (x3_1 : List Int), Aside0 (nat_show.l0 kq x0_1 x3_1 = some r) ∧ Aside0 (kq ≤ k) ∧ Aside0 (Kd.R (Kd.int .u32) 78 w' w.heap.size (fun _ => True) v0 x0_1) ∧ Aside0 (Kd.R (Kd.int .u8) 5 w' w.heap.size (fun _ => True) v3 x3_1) ∧ Aside0 (Below w.heap.size w w'))
 case atStart => exact ⟨(t423), (([] : List Int)), H', ⟨Nat.le_refl _⟩, ⟨by exact HO425.out⟩, ⟨by exact Kd.R_nil _ _ _ _ _⟩, ⟨by with_reducible exact HB.out⟩⟩
 case round =>
  clear H'
  obtain ⟨x0_1, x3_1, HA, HK1, HO_0, HO_3, HB⟩ := hrel
  cases gk with
  | zero => exact absurd HA.out (by simp [nat_show.l0])
  | succ k1 =>
   have H := HA.out
   clear HA
   simp only [nat_show.l0] at H
   by_cases c7 : (x0_1.length : Int) > 0
   ·
    rw [if_pos c7] at H
    have c7b0 : decide (0 < (x0_1.length : Int)) = true := decide_eq_true c7
    have c7b1 : decide (0 < x0_1.length) = true := decide_eq_true (by omega)
    clear c7
    obtain ⟨⟨t426, t427⟩, A8, H⟩ := bindE H
    dsimp only at H
    obtain ⟨t428, A9, H⟩ := bindE H
    have H' := am H
    clear H
    obtain ⟨Ao10, co10, eo10⟩ := Kd.R_slice HO_0.out
    subst eo10
    go_wp2_with (first | ((with_reducible refine gate_callee (f := 95) rfl ?_); refine goesL_ (some 12) rfl rfl Try.func95 (by kernel_rfl) rfl #[.slice Ao10 x0_1.length co10, .int .u32 1000000000] rfl (by (try simp only [List.map_toArray, List.map_cons, List.map_nil]); rfl) ?_; (with_reducible refine (nat_short.calls k1 (fun k_ => some k_ = (.slice Ao10 x0_1.length co10 : Value).ownBlock) (.slice Ao10 x0_1.length co10) x0_1 1000000000 t426 t427 w _ ?side1 ?side2 A8.out).mono ?_); (case side1 => repeat ((with_reducible exact HB.out))); (case side2 => exact Kd.R_tight rfl HO_0.out); rintro e w11 ⟨rfl, hy0, hb, hkp⟩; refine ⟨_, rfl, ?_⟩; replace HO_3 := am (Kd.R_mono (ok' := fun k_ => True) (Kd.R_keptB ((Kd.R_apart' HO_3.out (Kd.R_typed HO_0.out) (by decide))) hkp (fun k_ hk_ hs_ => (hk_.2) hs_)) (fun k_ hk_ => trivial)); replace HO_0 := am (Kd.R_reok rfl hy0 (fun k_ e_ => HO_0.out.1 k_ e_)); replace HB := am (hb); (try clear hb); (try clear hkp); (try clear hy0)) | ((with_reducible refine gate_callee (f := 79) rfl ?_); refine goesL_ (some 14) rfl rfl Try.func79 (by kernel_rfl) rfl #[.slice Ao10 x0_1.length co10] rfl (by (try simp only [List.map_toArray, List.map_cons, List.map_nil]); rfl) ?_; (with_reducible refine (nat_trim_own.calls k1 (fun k_ => some k_ = (.slice Ao10 x0_1.length co10 : Value).ownBlock) (.slice Ao10 x0_1.length co10) t427 t428 w _ ?side1 ?side2 A9.out).mono ?_); (case side1 => repeat ((with_reducible exact HB.out))); (case side2 => exact Kd.R_tight rfl HO_0.out); rintro e w12 ⟨v429, rfl, ho0, hb, hkp⟩; refine ⟨_, rfl, ?_⟩; replace HO_3 := am (Kd.R_mono (ok' := fun k_ => True) (Kd.R_keptB ((Kd.R_apart' HO_3.out (Kd.R_typed HO_0.out) (by decide))) hkp (fun k_ hk_ hs_ => (hk_.2) hs_)) (fun k_ hk_ => trivial)); have HO430 := am (Kd.R_mono (ok' := fun k_ => True) ho0 (fun k_ hk_ => trivial)); replace HB := am (hb); clear HO_0; (try clear hb); (try clear hkp); (try clear ho0)))
    go_loopg [3, 4, 15] k1 (fun kq v3 v4 v15 w' => ∃ (x3_2 : List Int) (x4_2 : Int) (x15_2 : Int), v4 = .int .u32 x4_2 ∧ v15 = .int .i64 x15_2 ∧ Aside0 (nat_show.l1 kq t428 x3_2 x4_2 x15_2 = some r) ∧ Aside0 (kq ≤ k1) ∧ Aside0 (Kd.R (Kd.int .u32) 78 w' w.heap.size (fun _ => True) v429 t428) ∧ Aside0 (Kd.R (Kd.int .u8) 5 w' w.heap.size (fun _ => True) v3 x3_2) ∧ Aside0 (Below w.heap.size w w'))
    case atStart => exact ⟨(x3_1), (t426), (0), (by rfl), (by rfl), H', ⟨Nat.le_refl _⟩, ⟨by exact HO430.out⟩, ⟨by exact HO_3.out⟩, ⟨by with_reducible exact HB.out⟩⟩
    case round =>
     clear H'
     try clear c7b0
     try clear c7b1
     obtain ⟨x3_2, x4_2, x15_2, rfl, rfl, HA, HK2, HO_0, HO_3, HB⟩ := hrel
     cases gk with
     | zero => exact absurd HA.out (by simp [nat_show.l1])
     | succ k2 =>
      have H := HA.out
      clear HA
      simp only [nat_show.l1] at H
      by_cases c13 : x15_2 < 9
      ·
       rw [if_pos c13] at H
       have c13b0 : decide (x15_2 < 9) = true := decide_eq_true c13
       clear c13
       obtain ⟨c14, H⟩ := iteS H
       have LMc14 := am c14
       clear c14
       obtain ⟨y431, hy431⟩ : ∃ y_ : List Int, y_ = (x3_2 ++ [(48 + (Int.tmod x4_2 10)) % 256]) := ⟨_, rfl⟩
       replace H : (nat_show.l1 k2 t428 y431 ((Int.tdiv x4_2 10) % 4294967296) (wrap64 (x15_2 + 1))) = some r := by (rw [hy431]; with_reducible exact H)
       have Ny431 := am hy431
       clear hy431
       have H' := am H
       clear H
       go_wp2_with (((with_reducible refine gate_builtin (b := .append) (xs := #[.tmp 17, .tmp 22]) rfl ?_); (try (refine gate_guard (by rfl) ?_; dsimp only)); at_builtin; refine Kd.R_append (Kd.int .u8) (w0 := w) w.heap.size rfl (.tmp 17) (.tmp 22) 127 5 (.int .u8 0) 1 rfl Try.underlying127 info5 rfl (by decide) (by omega) u3 x3_2 ((48 + (Int.tmod x4_2 10)) % 256) [.int .u8 ((48 + (Int.tmod x4_2 10)) % 256)] (fun _ => True) (fun _ => False) rfl rfl ?aP (fun _ hk => hk.elim) ?aF ?aO ?aB ?aS ?aL ?_; (case aP => exact rfl); (case aB => exact HB.out); (case aF => exact (fun _ _ => trivial)); (case aO => exact HO_3.out); (case aS => exact (below_size HB.out)); (case aL => have := LMc14.out; omega); intro v432 w15 ho hb hg hat; rw [← Ny431.out] at ho; replace HO_0 := am (Kd.R_over' HO_0.out (Kd.R_typed HO_3.out) (by decide) hg); replace HB := am (hb); have HO433 := am ho; clear HO_3; clear ho hb hg hat))
       go_roundg k2
       case measure => have := HK1.out; have := HK2.out; omega
       case rel => exact ⟨(y431), ((Int.tdiv x4_2 10) % 4294967296), (wrap64 (x15_2 + 1)), (by rfl), (by rfl), H', ⟨by have := HK1.out; have := HK2.out; omega⟩, ⟨by exact HO_0.out⟩, ⟨by exact HO433.out⟩, ⟨by with_reducible exact HB.out⟩⟩
      ·
       rw [if_neg c13] at H
       have c13b0 : decide (x15_2 < 9) = false := decide_eq_false c13
       clear c13
       have H' := am H
       clear H
       go_wp2
       go_roundg k2
       case measure => have := HK1.out; have := HK2.out; omega
       case rel => exact ⟨(t428), (x3_2), H', ⟨by have := HK1.out; have := HK2.out; omega⟩, ⟨by exact HO_0.out⟩, ⟨by exact HO_3.out⟩, ⟨by with_reducible exact HB.out⟩⟩
   ·
    rw [if_neg c7] at H
    have c7b0 : decide (0 < (x0_1.length : Int)) = false := decide_eq_false c7
    have c7b1 : decide (0 < x0_1.length) = false := decide_eq_false (by omega)
    clear c7
    have H' := am H
    clear H
    obtain ⟨Ao16, co16, eo16⟩ := Kd.R_slice HO_0.out
    subst eo16
    go_wp2
    go_loopg [3] k1 (fun kq v3 w' => ∃ (x3_2 : List Int), Aside0 (nat_show.l2 kq x3_2 = some r) ∧ Aside0 (kq ≤ k1) ∧ Aside0 (Kd.R (Kd.int .u8) 5 w' w.heap.size (fun _ => True) v3 x3_2) ∧ Aside0 (Below w.heap.size w w'))
    case atStart => exact ⟨(x3_1), H', ⟨Nat.le_refl _⟩, ⟨by exact HO_3.out⟩, ⟨by with_reducible exact HB.out⟩⟩
    case round =>
     clear H'
     try clear c7b0
     try clear c7b1
     obtain ⟨x3_2, HA, HK2, HO_3, HB⟩ := hrel
     cases gk with
     | zero => exact absurd HA.out (by simp [nat_show.l2])
     | succ k2 =>
      have H := HA.out
      clear HA
      simp only [nat_show.l2] at H
      by_cases c17 : (x3_2.length : Int) > 0
      ·
       rw [if_pos c17] at H
       have c17b0 : decide (0 < (x3_2.length : Int)) = true := decide_eq_true c17
       have c17b1 : decide (0 < x3_2.length) = true := decide_eq_true (by omega)
       clear c17
       obtain ⟨ji18, hji18⟩ : ∃ j_ : Int, (wrap64 ((x3_2.length : Int) - 1)) = j_ := ⟨_, rfl⟩
       replace H : (if 0 ≤ (ji18) then (if (ji18) < (x3_2.length : Int) then (if (rd x3_2 (ji18)) = 48 then (if (ji18) ≤ (x3_2.length : Int) then (nat_show.l2 k2 (x3_2.take ((ji18) : Int).toNat)) else (none)) else (if (x3_2.length : Int) = 0 then (some (⟨#[48]⟩ : ByteArray)) else ((slices_Reverse_byte_byte.f k2 x3_2).bind fun t438 => (some (strOfNums t438))))) else (none)) else (none)) = some r := by (rw [hji18] at H; exact H)
       have hji18w : (IntKind.i64.wrap ((x3_2.length : Int) - 1)) = ji18 := (i64_w _).trans hji18
       obtain ⟨c19, H⟩ := iteS H
       have c19b0 : decide (0 ≤ (ji18)) = true := decide_eq_true c19
       clear c19
       obtain ⟨c20, H⟩ := iteS H
       have c20b0 : decide ((ji18) < (x3_2.length : Int)) = true := decide_eq_true c20
       clear c20
       by_cases c21 : (rd x3_2 (ji18)) = 48
       ·
        rw [if_pos c21] at H
        have c21b0 : ((rd x3_2 (ji18)) == 48) = true := beq_iff_eq.mpr c21
        have c21b1 : ((rd x3_2 (ji18)) != 48) = false := bne_eq_false_iff_eq.mpr c21
        clear c21
        obtain ⟨c22, H⟩ := iteS H
        have c22b0 := eq_true c22
        have c22b1 : decide ((ji18) ≤ (x3_2.length : Int)) = true := decide_eq_true c22
        clear c22
        obtain ⟨y435, hy435⟩ : ∃ y_ : List Int, y_ = (x3_2.take ((ji18) : Int).toNat) := ⟨_, rfl⟩
        replace H : (nat_show.l2 k2 y435) = some r := by (rw [hy435]; with_reducible exact H)
        have Ny435 := am hy435
        clear hy435
        have H' := am H
        clear H
        obtain ⟨Ao23, co23, eo23⟩ := Kd.R_slice HO_3.out
        subst eo23
        have p434 : 0 ≤ ((ji18) : Int) := of_decide_eq_true (by (with_reducible assumption))
        have q434 : (ji18) < (x3_2.length : Int) := of_decide_eq_true (by (with_reducible assumption))
        obtain ⟨ad434, e434, hx434_0⟩ := Kd.at_int (Kd.R_reads' HO_3.out).2.2 (ji18) p434 q434
        cases e434
        replace p434 := eq_true p434
        replace q434 := eq_true q434
        have q24 : ((ji18) : Int) ≤ ((x3_2.length : Int) : Int) := of_decide_eq_true (by (with_reducible assumption))
        obtain ⟨i024, hi024, _, hsz24, _⟩ := info_parts info5
        have hcut24 := cut_to (P := Try.prog) 127 5 .i64 Try.underlying127 hi024 (some ad434) x3_2.length co23 (ji18) (of_decide_eq_true (by (with_reducible assumption))) q24 (Kd.R_reads' HO_3.out).2.1
        have hr24 := Kd.R_take (m := ((ji18) : Int).toNat) HO_3.out (by omega)
        have hy24 : y435.length = ((ji18) : Int).toNat := (by rw [Ny435.out, List.length_take]; omega)
        rw [← Ny435.out] at hr24
        rw [← hy24] at hr24 hcut24
        clear hy24 hi024 hsz24 HO_3
        have HO437 := am hr24
        clear hr24
        replace q24 := eq_true q24
        go_wp2
        go_roundg k2
        case measure => have := HK1.out; have := HK2.out; omega
        case rel => exact ⟨(y435), H', ⟨by have := HK1.out; have := HK2.out; omega⟩, ⟨by exact HO437.out⟩, ⟨by with_reducible exact HB.out⟩⟩
       ·
        rw [if_neg c21] at H
        have c21b0 : ((rd x3_2 (ji18)) == 48) = false := beq_eq_false_iff_ne.mpr c21
        have c21b1 : ((rd x3_2 (ji18)) != 48) = true := bne_iff_ne.mpr c21
        by_cases c25 : (x3_2.length : Int) = 0
        ·
         rw [if_pos c25] at H
         have c25b0 : ((x3_2.length : Int) == 0) = true := beq_iff_eq.mpr c25
         have c25b1 : ((x3_2.length : Int) != 0) = false := bne_eq_false_iff_eq.mpr c25
         clear c25
         obtain rfl := Option.some.inj H
         obtain ⟨Ao26, co26, eo26⟩ := Kd.R_slice HO_3.out
         subst eo26
         have p434 : 0 ≤ ((ji18) : Int) := of_decide_eq_true (by (with_reducible assumption))
         have q434 : (ji18) < (x3_2.length : Int) := of_decide_eq_true (by (with_reducible assumption))
         obtain ⟨ad434, e434, hx434_0⟩ := Kd.at_int (Kd.R_reads' HO_3.out).2.2 (ji18) p434 q434
         cases e434
         replace p434 := eq_true p434
         replace q434 := eq_true q434
         go_wp2
         go_ret
         exact ⟨by rfl, by with_reducible exact HB.out⟩
        ·
         rw [if_neg c25] at H
         have c25b0 : ((x3_2.length : Int) == 0) = false := beq_eq_false_iff_ne.mpr c25
         have c25b1 : ((x3_2.length : Int) != 0) = true := bne_iff_ne.mpr c25
         have c25b2 : ¬ (x3_2 = []) := fun h_ => c25 (by rw [h_]; rfl)
         obtain ⟨t438, A27, H⟩ := bindE H
         obtain rfl := Option.some.inj H
         obtain ⟨Ao28, co28, eo28⟩ := Kd.R_slice HO_3.out
         subst eo28
         have p434 : 0 ≤ ((ji18) : Int) := of_decide_eq_true (by (with_reducible assumption))
         have q434 : (ji18) < (x3_2.length : Int) := of_decide_eq_true (by (with_reducible assumption))
         obtain ⟨ad434, e434, hx434_0⟩ := Kd.at_int (Kd.R_reads' HO_3.out).2.2 (ji18) p434 q434
         cases e434
         replace p434 := eq_true p434
         replace q434 := eq_true q434
         go_wp2_with (((with_reducible refine gate_callee (f := 99) rfl ?_); refine goesL_ (some 48) rfl rfl Try.func99 (by kernel_rfl) rfl #[.slice (some ad434) x3_2.length co28] rfl (by (try simp only [List.map_toArray, List.map_cons, List.map_nil]); rfl) ?_; (with_reducible refine (slices_Reverse_byte_byte.calls k2 (fun k_ => some k_ = (.slice (some ad434) x3_2.length co28 : Value).ownBlock) (.slice (some ad434) x3_2.length co28) x3_2 t438 w _ ?side1 ?side2 A27.out).mono ?_); (case side1 => repeat ((with_reducible exact HB.out))); (case side2 => exact Kd.R_tight rfl HO_3.out); rintro e w29 ⟨rfl, hy0, hb, hkp⟩; refine ⟨_, rfl, ?_⟩; replace HO_3 := am (Kd.R_reok rfl hy0 (fun k_ e_ => HO_3.out.1 k_ e_)); replace HB := am (hb); (try clear hb); (try clear hkp); (try clear hy0); have hcv30 := own_string (P := Try.prog) Try.underlying127 Try.underlying5 Try.underlying9 (Kd.own_of_R HO_3.out)))
         go_ret
         exact ⟨by rfl, by with_reducible exact HB.out⟩
      ·
       rw [if_neg c17] at H
       have c17b0 : decide (0 < (x3_2.length : Int)) = false := decide_eq_false c17
       have c17b1 : decide (0 < x3_2.length) = false := decide_eq_false (by omega)
       clear c17
       by_cases c31 : (x3_2.length : Int) = 0
       ·
        rw [if_pos c31] at H
        have c31b0 : ((x3_2.length : Int) == 0) = true := beq_iff_eq.mpr c31
        have c31b1 : ((x3_2.length : Int) != 0) = false := bne_eq_false_iff_eq.mpr c31
        clear c31
        obtain rfl := Option.some.inj H
        obtain ⟨Ao32, co32, eo32⟩ := Kd.R_slice HO_3.out
        subst eo32
        go_wp2
        go_ret
        exact ⟨by rfl, by with_reducible exact HB.out⟩
       ·
        rw [if_neg c31] at H
        have c31b0 : ((x3_2.length : Int) == 0) = false := beq_eq_false_iff_ne.mpr c31
        have c31b1 : ((x3_2.length : Int) != 0) = true := bne_iff_ne.mpr c31
        have c31b2 : ¬ (x3_2 = []) := fun h_ => c31 (by rw [h_]; rfl)
        obtain ⟨t439, A33, H⟩ := bindE H
        obtain rfl := Option.some.inj H
        obtain ⟨Ao34, co34, eo34⟩ := Kd.R_slice HO_3.out
        subst eo34
        go_wp2_with (((with_reducible refine gate_callee (f := 99) rfl ?_); refine goesL_ (some 48) rfl rfl Try.func99 (by kernel_rfl) rfl #[.slice Ao34 x3_2.length co34] rfl (by (try simp only [List.map_toArray, List.map_cons, List.map_nil]); rfl) ?_; (with_reducible refine (slices_Reverse_byte_byte.calls k2 (fun k_ => some k_ = (.slice Ao34 x3_2.length co34 : Value).ownBlock) (.slice Ao34 x3_2.length co34) x3_2 t439 w _ ?side1 ?side2 A33.out).mono ?_); (case side1 => repeat ((with_reducible exact HB.out))); (case side2 => exact Kd.R_tight rfl HO_3.out); rintro e w35 ⟨rfl, hy0, hb, hkp⟩; refine ⟨_, rfl, ?_⟩; replace HO_3 := am (Kd.R_reok rfl hy0 (fun k_ e_ => HO_3.out.1 k_ e_)); replace HB := am (hb); (try clear hb); (try clear hkp); (try clear hy0); have hcv36 := own_string (P := Try.prog) Try.underlying127 Try.underlying5 Try.underlying9 (Kd.own_of_R HO_3.out)))
        go_ret
        exact ⟨by rfl, by with_reducible exact HB.out⟩

/-! ### nat_Show: function 60 -/
def nat_Show.f (k : Nat) (l0 : List Int) : Option (ByteArray) := (nat_show.f k l0).bind fun t440 => (some t440)
theorem nat_Show.mono : ∀ a0 k, LeO (nat_Show.f k a0) (nat_Show.f (k + 1) a0) := by
 intro a0 k
 unfold nat_Show.f
 repeat' first
   | (with_reducible exact nat_show.mono _ _)
   | (with_reducible exact LeO.refl _)
   | (with_reducible refine LeO.bind ?_ (fun _ => ?_))
set_option maxHeartbeats 8000000 in
set_option maxRecDepth 100000 in
theorem nat_Show.calls (k : Nat) (A0 : Option Addr) (c0 : Nat) (l0 : List Int) (r : ByteArray) (w : World) (hr0 : Kd.C (Kd.int .u32) w A0 l0.length l0) (hc0 : l0.length ≤ c0) (h : nat_Show.f k l0 = some r) :
  Calls Try.prog 60 #[.slice A0 l0.length c0] w fun e w' => e = .returned (.string r) ∧ Below w.heap.size w w' := by
 have HR0 := am hr0
 have HC0 := am hc0
 clear hr0 hc0
 have HB := am (Below.refl w.heap.size w)
 have H : ((nat_show.f k l0).bind fun t440 => (some t440)) = some r := h
 clear h
 obtain ⟨t440, A2, H⟩ := bindE H
 obtain rfl := Option.some.inj H
 go_enter Try.func60, Try.ntmps60
 go_wp2_with (((with_reducible refine gate_callee (f := 86) rfl ?_); refine goesL_ (some 4) rfl rfl Try.func86 (by kernel_rfl) rfl #[.slice A0 l0.length c0] rfl (by (try simp only [List.map_toArray, List.map_cons, List.map_nil]); rfl) ?_; (with_reducible refine (nat_show.calls k _ _ l0 t440 _ ?side1 ?side2 A2.out).mono ?_); (case side1 => exact HR0.out); (case side2 => exact HC0.out); rintro e w3 ⟨rfl, hb⟩; refine ⟨_, rfl, ?_⟩; replace HB := am (below_step HB.out hb); (try clear hb)))
 go_ret
 exact ⟨by rfl, by with_reducible exact HB.out⟩

end Go.Proofs.Ytmfmojldebhboaa.ZWhole
