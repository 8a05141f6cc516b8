-- printed by zprint.py, a program of this session's
import Derived.Test.YtmfmojldebhboaaZWhole0
import Derived.Test.YtmfmojldebhboaaZWholegAdd
import Derived.Test.YtmfmojldebhboaaZWholegDiv
import Derived.Test.YtmfmojldebhboaaZWholegSize
namespace Go.Proofs.Ytmfmojldebhboaa.ZWhole
open Go.RowKit Go.Proofs.YtmfmojldebhboaaW.PrintWords Go.Proofs.YtmfmojldebhboaaW.PrintLast Go.Proofs.YtmfmojldebhboaaW.PrintMore
set_option linter.unusedVariables false
set_option linter.unusedSimpArgs false

/-! ### whole_Show: function 32 -/
def whole_Show.f (k : Nat) (a0_0 : Bool) (l0_1 : List Int) : Option (ByteArray) := (whole_sign.f k a0_0 l0_1).bind fun t442 => (if t442 < 0 then ((nat_Show.f k l0_1).bind fun t443 => (if 1 + t443.size ≤ 9223372036854775807 then (some ((⟨#[45]⟩ : ByteArray) ++ t443)) else (none))) else ((nat_Show.f k l0_1).bind fun t444 => (some t444)))
theorem whole_Show.mono : ∀ a0 a1 k, LeO (whole_Show.f k a0 a1) (whole_Show.f (k + 1) a0 a1) := by
 intro a0 a1 k
 unfold whole_Show.f
 repeat' first
   | (with_reducible exact nat_Show.mono _ _)
   | (with_reducible exact whole_sign.mono _ _ _)
   | (with_reducible exact LeO.refl _)
   | (with_reducible refine LeO.ite ?_ ?_)
   | (with_reducible refine LeO.bind ?_ (fun _ => ?_))
set_option maxHeartbeats 8000000 in
set_option maxRecDepth 100000 in
theorem whole_Show.calls (k : Nat) (a0_0 : Bool) (A0_1 : Option Addr) (c0_1 : Nat) (l0_1 : List Int) (r : ByteArray) (w : World) (hr0_1 : Kd.C (Kd.int .u32) w A0_1 l0_1.length l0_1) (hc0_1 : l0_1.length ≤ c0_1) (h : whole_Show.f k a0_0 l0_1 = some r) :
  Calls Try.prog 32 #[.agg #[.bool a0_0, .slice A0_1 l0_1.length c0_1]] w fun e w' => e = .returned (.string r) ∧ Below w.heap.size w w' := by
 have hu25 := Try.underlying25
 have HR0_1 := am hr0_1
 have HC0_1 := am hc0_1
 clear hr0_1 hc0_1
 have HB := am (Below.refl w.heap.size w)
 have H : ((whole_sign.f k a0_0 l0_1).bind fun t442 => (if t442 < 0 then ((nat_Show.f k l0_1).bind fun t443 => (if 1 + t443.size ≤ 9223372036854775807 then (some ((⟨#[45]⟩ : ByteArray) ++ t443)) else (none))) else ((nat_Show.f k l0_1).bind fun t444 => (some t444)))) = some r := h
 clear h
 obtain ⟨t442, A2, H⟩ := bindE H
 by_cases c3 : t442 < 0
 ·
  rw [if_pos c3] at H
  have c3b0 : decide (t442 < 0) = true := decide_eq_true c3
  clear c3
  obtain ⟨t443, A4, H⟩ := bindE H
  obtain ⟨c5, H⟩ := iteS H
  have c5b0 := eq_true c5
  have c5b1 : decide (1 + t443.size ≤ 9223372036854775807) = true := decide_eq_true c5
  try have c5b2 : (9223372036854775807 < 1 + t443.size) = False := eq_false (Nat.not_lt.2 c5)
  obtain rfl := Option.some.inj H
  go_enter Try.func32, Try.ntmps32
  go_wp2_with (first | ((with_reducible refine gate_dst (N := 1) rfl ?_); refine box_event ?hg (N := 1) ?hd (cs := #[.bool a0_0, .slice A0_1 l0_1.length c0_1]) (t := 25) ?hr ?_; (case hd => rfl); (case hg => rfl); (case hr => (go_simp; done)); intro gb441 hg w6 hbox hb; have BK441 := am hbox; have GW441 := am (gel hg HB.out); have GE441 := am (gel hg HB.out); replace HB := am (below_step HB.out hb); clear hb hbox hg; have hcz7_0 : w6.cell? ⟨gb441, 0, none⟩ = some (.bool a0_0) := (blk_cell BK441.out 0).trans rfl; have hcz7_1 : w6.cell? ⟨gb441, 1, none⟩ = some (.slice A0_1 l0_1.length c0_1) := (blk_cell BK441.out 1).trans rfl; have hfz7_0 := blk_frozen BK441.out 0; have hfz7_1 := blk_frozen BK441.out 1) | ((with_reducible refine gate_callee (f := 52) rfl ?_); refine goesL_ (some 4) rfl rfl Try.func52 (by kernel_rfl) rfl #[.agg #[.bool a0_0, .slice A0_1 l0_1.length c0_1]] rfl (by (try simp only [List.map_toArray, List.map_cons, List.map_nil]); rfl) ?_; (with_reducible refine (whole_sign.calls k a0_0 _ _ l0_1 t442 _ ?side1 ?side2 A2.out).mono ?_); (case side1 => repeat (exact (Kd.C_below HR0_1.out HB.out))); (case side2 => exact HC0_1.out); rintro e w8 ⟨rfl, hb⟩; refine ⟨_, rfl, ?_⟩; replace BK441 := am (blk_below BK441.out hb); replace HB := am (below_step HB.out hb); (try clear hb); have hcz9_0 : w8.cell? ⟨gb441, 0, none⟩ = some (.bool a0_0) := (blk_cell BK441.out 0).trans rfl; have hcz9_1 : w8.cell? ⟨gb441, 1, none⟩ = some (.slice A0_1 l0_1.length c0_1) := (blk_cell BK441.out 1).trans rfl; have hfz9_0 := blk_frozen BK441.out 0; have hfz9_1 := blk_frozen BK441.out 1) | ((with_reducible refine gate_callee (f := 60) rfl ?_); refine goesL_ (some 8) rfl rfl Try.func60 (by kernel_rfl) rfl #[.slice A0_1 l0_1.length c0_1] rfl (by (try simp only [List.map_toArray, List.map_cons, List.map_nil]); rfl) ?_; (with_reducible refine (nat_Show.calls k _ _ l0_1 t443 _ ?side1 ?side2 A4.out).mono ?_); (case side1 => repeat (exact (Kd.C_below HR0_1.out HB.out))); (case side2 => exact HC0_1.out); rintro e w10 ⟨rfl, hb⟩; refine ⟨_, rfl, ?_⟩; replace BK441 := am (blk_below BK441.out hb); replace HB := am (below_step HB.out hb); (try clear hb)))
  go_ret
  exact ⟨by rfl, by with_reducible exact HB.out⟩
 ·
  rw [if_neg c3] at H
  have c3b0 : decide (t442 < 0) = false := decide_eq_false c3
  clear c3
  obtain ⟨t444, A11, H⟩ := bindE H
  obtain rfl := Option.some.inj H
  go_enter Try.func32, Try.ntmps32
  go_wp2_with (first | ((with_reducible refine gate_dst (N := 1) rfl ?_); refine box_event ?hg (N := 1) ?hd (cs := #[.bool a0_0, .slice A0_1 l0_1.length c0_1]) (t := 25) ?hr ?_; (case hd => rfl); (case hg => rfl); (case hr => (go_simp; done)); intro gb441 hg w12 hbox hb; have BK441 := am hbox; have GW441 := am (gel hg HB.out); have GE441 := am (gel hg HB.out); replace HB := am (below_step HB.out hb); clear hb hbox hg; have hcz13_0 : w12.cell? ⟨gb441, 0, none⟩ = some (.bool a0_0) := (blk_cell BK441.out 0).trans rfl; have hcz13_1 : w12.cell? ⟨gb441, 1, none⟩ = some (.slice A0_1 l0_1.length c0_1) := (blk_cell BK441.out 1).trans rfl; have hfz13_0 := blk_frozen BK441.out 0; have hfz13_1 := blk_frozen BK441.out 1) | ((with_reducible refine gate_callee (f := 52) rfl ?_); refine goesL_ (some 4) rfl rfl Try.func52 (by kernel_rfl) rfl #[.agg #[.bool a0_0, .slice A0_1 l0_1.length c0_1]] rfl (by (try simp only [List.map_toArray, List.map_cons, List.map_nil]); rfl) ?_; (with_reducible refine (whole_sign.calls k a0_0 _ _ l0_1 t442 _ ?side1 ?side2 A2.out).mono ?_); (case side1 => repeat (exact (Kd.C_below HR0_1.out HB.out))); (case side2 => exact HC0_1.out); rintro e w14 ⟨rfl, hb⟩; refine ⟨_, rfl, ?_⟩; replace BK441 := am (blk_below BK441.out hb); replace HB := am (below_step HB.out hb); (try clear hb); have hcz15_0 : w14.cell? ⟨gb441, 0, none⟩ = some (.bool a0_0) := (blk_cell BK441.out 0).trans rfl; have hcz15_1 : w14.cell? ⟨gb441, 1, none⟩ = some (.slice A0_1 l0_1.length c0_1) := (blk_cell BK441.out 1).trans rfl; have hfz15_0 := blk_frozen BK441.out 0; have hfz15_1 := blk_frozen BK441.out 1) | ((with_reducible refine gate_callee (f := 60) rfl ?_); refine goesL_ (some 12) rfl rfl Try.func60 (by kernel_rfl) rfl #[.slice A0_1 l0_1.length c0_1] rfl (by (try simp only [List.map_toArray, List.map_cons, List.map_nil]); rfl) ?_; (with_reducible refine (nat_Show.calls k _ _ l0_1 t444 _ ?side1 ?side2 A11.out).mono ?_); (case side1 => repeat (exact (Kd.C_below HR0_1.out HB.out))); (case side2 => exact HC0_1.out); rintro e w16 ⟨rfl, hb⟩; refine ⟨_, rfl, ?_⟩; replace BK441 := am (blk_below BK441.out hb); replace HB := am (below_step HB.out hb); (try clear hb)))
  go_ret
  exact ⟨by rfl, by with_reducible exact HB.out⟩

/-! ### whole_Of: function 37 -/
def whole_Of.f (k : Nat) (a0 : Int) : Option (Bool × List Int) := if a0 < 0 then ((nat_Of.f k (IntKind.u64.wrap (-(IntKind.u64.wrap (a0))))).bind fun t455 => ((whole_norm.f k true t455).bind fun bt458 => (some (bt458.1, bt458.2)))) else ((nat_Of.f k (IntKind.u64.wrap (a0))).bind fun t462 => ((whole_norm.f k false t462).bind fun bt465 => (some (bt465.1, bt465.2))))
theorem whole_Of.mono : ∀ a0 k, LeO (whole_Of.f k a0) (whole_Of.f (k + 1) a0) := by
 intro a0 k
 unfold whole_Of.f
 repeat' first
   | (with_reducible exact nat_Of.mono _ _)
   | (with_reducible exact whole_norm.mono _ _ _)
   | (with_reducible exact LeO.refl _)
   | (with_reducible refine LeO.ite ?_ ?_)
   | (with_reducible refine LeO.bind ?_ (fun _ => ?_))
set_option maxHeartbeats 8000000 in
set_option maxRecDepth 100000 in
theorem whole_Of.calls (k : Nat) (a0 : Int) (r1 : Bool) (r2 : List Int) (w : World) (h : whole_Of.f k a0 = some (r1, r2)) :
  Calls Try.prog 37 #[.int .i64 a0] w fun e w' => ∃ v1_ : Value, e = .returned (.agg #[.bool r1, v1_]) ∧ Kd.R (Kd.int .u32) 78 w' w.heap.size (fun _ => True) v1_ r2 ∧ Below w.heap.size w w' := by
 have hu25 := Try.underlying25
 have HB := am (Below.refl w.heap.size w)
 have H : (if a0 < 0 then ((nat_Of.f k (IntKind.u64.wrap (-(IntKind.u64.wrap (a0))))).bind fun t455 => ((whole_norm.f k true t455).bind fun bt458 => (some (bt458.1, bt458.2)))) else ((nat_Of.f k (IntKind.u64.wrap (a0))).bind fun t462 => ((whole_norm.f k false t462).bind fun bt465 => (some (bt465.1, bt465.2))))) = some (r1, r2) := h
 clear h
 by_cases c2 : a0 < 0
 ·
  rw [if_pos c2] at H
  have c2b0 : decide (a0 < 0) = true := decide_eq_true c2
  clear c2
  obtain ⟨t455, A3, H⟩ := bindE H
  obtain ⟨⟨t458, t459⟩, A4, H⟩ := bindE H
  replace H : (some (t458, t459)) = some (r1, r2) := H
  simp only [Option.some.injEq, Prod.mk.injEq] at H
  obtain ⟨rfl, rfl⟩ := H
  go_enter Try.func37, Try.ntmps37
  go_wp2_with (first | ((with_reducible refine gate_dst (N := 2) rfl ?_); refine box_event ?hg (N := 2) ?hd (cs := #[.bool false, .slice none 0 0]) (t := 25) ?hr ?_; (case hd => rfl); (case hg => rfl); (case hr => (go_simp; done)); intro gb454 hg w5 hbox hb; have BK454 := am hbox; have GW454 := am (gel hg HB.out); have GE454 := am (gel hg HB.out); replace HB := am (below_step HB.out hb); clear hb hbox hg) | ((with_reducible refine gate_callee (f := 66) rfl ?_); refine goesL_ (some 8) rfl rfl Try.func66 (by kernel_rfl) rfl #[.int .u64 (IntKind.u64.wrap (-(IntKind.u64.wrap (a0))))] rfl (by (try simp only [List.map_toArray, List.map_cons, List.map_nil]); rfl) ?_; (with_reducible refine (nat_Of.calls k (IntKind.u64.wrap (-(IntKind.u64.wrap (a0)))) t455 _ A3.out).mono ?_); rintro e w6 ⟨v456, rfl, ho0, hb⟩; refine ⟨_, rfl, ?_⟩; have HO457 := am (Kd.R_lower ho0 (below_size HB.out)); replace BK454 := am (blk_below BK454.out hb); replace HB := am (below_step HB.out hb); (try clear hb); (try clear ho0); obtain ⟨Ao7, co7, eo7⟩ := Kd.R_slice HO457.out; subst eo7) | ((with_reducible refine gate_callee (f := 47) rfl ?_); refine goesL_ (some 9) rfl rfl Try.func47 (by kernel_rfl) rfl #[.bool true, .slice Ao7 t455.length co7] rfl (by (try simp only [List.map_toArray, List.map_cons, List.map_nil]); rfl) ?_; (with_reducible refine (whole_norm.calls k true _ _ t455 t458 t459 _ ?side1 ?side2 A4.out).mono ?_); (case side1 => exact (Kd.R_reads' HO457.out).2.2); (case side2 => exact (Kd.R_reads' HO457.out).2.1); rintro e w8 ⟨v460, rfl, ho0, hb⟩; refine ⟨_, rfl, ?_⟩; have HO461 := am (Kd.R_lower (Kd.R_new' ho0 (Kd.R_lt HO457.out)) (below_size HB.out)); replace HO457 := am (Kd.R_elder' HO457.out (Kd.R_base ho0) hb); replace BK454 := am (blk_below BK454.out hb); replace HB := am (below_step HB.out hb); (try clear hb); (try clear ho0); have hcz9_0 : w8.cell? ⟨gb454, 0, none⟩ = some (.bool false) := (blk_cell BK454.out 0).trans rfl; have hcz9_1 : w8.cell? ⟨gb454, 1, none⟩ = some (.slice none 0 0) := (blk_cell BK454.out 1).trans rfl; have hfz9_0 := blk_frozen BK454.out 0; have hfz9_1 := blk_frozen BK454.out 1; obtain ⟨Ao10, co10, eo10⟩ := Kd.R_slice HO461.out; subst eo10))
  refine bodyPost_ret (results_cell_row rfl _ _ gb454 25 #[.bool t458, .slice Ao10 t459.length co10] (0, 0) _ rfl (by refine blk_put (cs := #[.bool t458, .slice none 0 0]) ?_ 1 _ rfl; refine blk_put (cs := #[.bool false, .slice none 0 0]) ?_ 0 _ rfl; exact BK454.out) Try.underlying25 rfl (by kernel_rfl)) rfl ?_
  exact ⟨_, by rfl, by exact Kd.R_mono (Kd.R_far (p := ⟨gb454, 1, none⟩) (Kd.R_far (p := ⟨gb454, 0, none⟩) (Kd.R_types HO461.out BK454.out (by decide)) (fun _ hk => hk.2) (.bool t458)) (fun _ hk => hk.2) (.slice Ao10 t459.length co10)) (fun _ hk => trivial), by repeat ((with_reducible first | exact HB.out | refine below_set ?_ GE454.out))⟩
 ·
  rw [if_neg c2] at H
  have c2b0 : decide (a0 < 0) = false := decide_eq_false c2
  clear c2
  obtain ⟨t462, A11, H⟩ := bindE H
  obtain ⟨⟨t465, t466⟩, A12, H⟩ := bindE H
  replace H : (some (t465, t466)) = some (r1, r2) := H
  simp only [Option.some.injEq, Prod.mk.injEq] at H
  obtain ⟨rfl, rfl⟩ := H
  go_enter Try.func37, Try.ntmps37
  go_wp2_with (first | ((with_reducible refine gate_dst (N := 2) rfl ?_); refine box_event ?hg (N := 2) ?hd (cs := #[.bool false, .slice none 0 0]) (t := 25) ?hr ?_; (case hd => rfl); (case hg => rfl); (case hr => (go_simp; done)); intro gb454 hg w13 hbox hb; have BK454 := am hbox; have GW454 := am (gel hg HB.out); have GE454 := am (gel hg HB.out); replace HB := am (below_step HB.out hb); clear hb hbox hg) | ((with_reducible refine gate_callee (f := 66) rfl ?_); refine goesL_ (some 12) rfl rfl Try.func66 (by kernel_rfl) rfl #[.int .u64 (IntKind.u64.wrap (a0))] rfl (by (try simp only [List.map_toArray, List.map_cons, List.map_nil]); rfl) ?_; (with_reducible refine (nat_Of.calls k (IntKind.u64.wrap (a0)) t462 _ A11.out).mono ?_); rintro e w14 ⟨v463, rfl, ho0, hb⟩; refine ⟨_, rfl, ?_⟩; have HO464 := am (Kd.R_lower ho0 (below_size HB.out)); replace BK454 := am (blk_below BK454.out hb); replace HB := am (below_step HB.out hb); (try clear hb); (try clear ho0); obtain ⟨Ao15, co15, eo15⟩ := Kd.R_slice HO464.out; subst eo15) | ((with_reducible refine gate_callee (f := 47) rfl ?_); refine goesL_ (some 13) rfl rfl Try.func47 (by kernel_rfl) rfl #[.bool false, .slice Ao15 t462.length co15] rfl (by (try simp only [List.map_toArray, List.map_cons, List.map_nil]); rfl) ?_; (with_reducible refine (whole_norm.calls k false _ _ t462 t465 t466 _ ?side1 ?side2 A12.out).mono ?_); (case side1 => exact (Kd.R_reads' HO464.out).2.2); (case side2 => exact (Kd.R_reads' HO464.out).2.1); rintro e w16 ⟨v467, rfl, ho0, hb⟩; refine ⟨_, rfl, ?_⟩; have HO468 := am (Kd.R_lower (Kd.R_new' ho0 (Kd.R_lt HO464.out)) (below_size HB.out)); replace HO464 := am (Kd.R_elder' HO464.out (Kd.R_base ho0) hb); replace BK454 := am (blk_below BK454.out hb); replace HB := am (below_step HB.out hb); (try clear hb); (try clear ho0); have hcz17_0 : w16.cell? ⟨gb454, 0, none⟩ = some (.bool false) := (blk_cell BK454.out 0).trans rfl; have hcz17_1 : w16.cell? ⟨gb454, 1, none⟩ = some (.slice none 0 0) := (blk_cell BK454.out 1).trans rfl; have hfz17_0 := blk_frozen BK454.out 0; have hfz17_1 := blk_frozen BK454.out 1; obtain ⟨Ao18, co18, eo18⟩ := Kd.R_slice HO468.out; subst eo18))
  refine bodyPost_ret (results_cell_row rfl _ _ gb454 25 #[.bool t465, .slice Ao18 t466.length co18] (0, 0) _ rfl (by refine blk_put (cs := #[.bool t465, .slice none 0 0]) ?_ 1 _ rfl; refine blk_put (cs := #[.bool false, .slice none 0 0]) ?_ 0 _ rfl; exact BK454.out) Try.underlying25 rfl (by kernel_rfl)) rfl ?_
  exact ⟨_, by rfl, by exact Kd.R_mono (Kd.R_far (p := ⟨gb454, 1, none⟩) (Kd.R_far (p := ⟨gb454, 0, none⟩) (Kd.R_types HO468.out BK454.out (by decide)) (fun _ hk => hk.2) (.bool t465)) (fun _ hk => hk.2) (.slice Ao18 t466.length co18)) (fun _ hk => trivial), by repeat ((with_reducible first | exact HB.out | refine below_set ?_ GE454.out))⟩

end Go.Proofs.Ytmfmojldebhboaa.ZWhole
