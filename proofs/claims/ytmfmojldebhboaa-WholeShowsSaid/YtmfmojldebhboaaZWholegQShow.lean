-- printed by zprint.py, a program of this session's
import Derived.Test.YtmfmojldebhboaaZWhole0
import Derived.Test.YtmfmojldebhboaaZWholegRShow
namespace Go.Proofs.Ytmfmojldebhboaa.ZWhole
open Go.RowKit Go.Proofs.YtmfmojldebhboaaW.PrintWords Go.Proofs.YtmfmojldebhboaaW.PrintLast Go.Proofs.YtmfmojldebhboaaW.PrintMore
set_option linter.unusedVariables false
set_option linter.unusedSimpArgs false

/-! ### zelligeref04_Show: function 34 -/
def zelligeref04_Show.f (k : Nat) (a0_0 : Int) (l0_1 : List Int) : Option (ByteArray) := if a0_0 < 0 then ((zelligeref03_Show.f k l0_1).bind fun t990 => (if 1 + t990.size ≤ 9223372036854775807 then (some ((⟨#[45]⟩ : ByteArray) ++ t990)) else (none))) else ((zelligeref03_Show.f k l0_1).bind fun t991 => (some t991))
theorem zelligeref04_Show.mono : ∀ a0 a1 k, LeO (zelligeref04_Show.f k a0 a1) (zelligeref04_Show.f (k + 1) a0 a1) := by
 intro a0 a1 k
 unfold zelligeref04_Show.f
 repeat' first
   | (with_reducible exact zelligeref03_Show.mono _ _)
   | (with_reducible exact LeO.refl _)
   | (with_reducible refine LeO.ite ?_ ?_)
   | (with_reducible refine LeO.bind ?_ (fun _ => ?_))
set_option maxHeartbeats 8000000 in
set_option maxRecDepth 100000 in
theorem zelligeref04_Show.calls (k : Nat) (a0_0 : Int) (A0_1 : Option Addr) (c0_1 : Nat) (l0_1 : List Int) (r : ByteArray) (w : World) (hr0_1 : Kd.C (Kd.int .i64) w A0_1 l0_1.length l0_1) (hc0_1 : l0_1.length ≤ c0_1) (h : zelligeref04_Show.f k a0_0 l0_1 = some r) :
  Calls Try.prog 34 #[.agg #[.int .i64 a0_0, .slice A0_1 l0_1.length c0_1]] w fun e w' => e = .returned (.string r) ∧ Below w.heap.size w w' := by
 have hu33 := Try.underlying33
 have HR0_1 := am hr0_1
 have HC0_1 := am hc0_1
 clear hr0_1 hc0_1
 have HB := am (Below.refl w.heap.size w)
 have H : (if a0_0 < 0 then ((zelligeref03_Show.f k l0_1).bind fun t990 => (if 1 + t990.size ≤ 9223372036854775807 then (some ((⟨#[45]⟩ : ByteArray) ++ t990)) else (none))) else ((zelligeref03_Show.f k l0_1).bind fun t991 => (some t991))) = some r := h
 clear h
 by_cases c2 : a0_0 < 0
 ·
  rw [if_pos c2] at H
  have c2b0 : decide (a0_0 < 0) = true := decide_eq_true c2
  clear c2
  obtain ⟨t990, A3, H⟩ := bindE H
  obtain ⟨c4, H⟩ := iteS H
  have c4b0 := eq_true c4
  have c4b1 : decide (1 + t990.size ≤ 9223372036854775807) = true := decide_eq_true c4
  try have c4b2 : (9223372036854775807 < 1 + t990.size) = False := eq_false (Nat.not_lt.2 c4)
  obtain rfl := Option.some.inj H
  go_enter Try.func34, Try.ntmps34
  go_wp2_with (first | ((with_reducible refine gate_dst (N := 1) rfl ?_); refine box_event ?hg (N := 1) ?hd (cs := #[.int .i64 a0_0, .slice A0_1 l0_1.length c0_1]) (t := 33) ?hr ?_; (case hd => rfl); (case hg => rfl); (case hr => (go_simp; done)); intro gb989 hg w5 hbox hb; have BK989 := am hbox; have GW989 := am (gel hg HB.out); have GE989 := am (gel hg HB.out); replace HB := am (below_step HB.out hb); clear hb hbox hg; have hcz6_0 : w5.cell? ⟨gb989, 0, none⟩ = some (.int .i64 a0_0) := (blk_cell BK989.out 0).trans rfl; have hcz6_1 : w5.cell? ⟨gb989, 1, none⟩ = some (.slice A0_1 l0_1.length c0_1) := (blk_cell BK989.out 1).trans rfl; have hfz6_0 := blk_frozen BK989.out 0; have hfz6_1 := blk_frozen BK989.out 1) | ((with_reducible refine gate_callee (f := 63) rfl ?_); refine goesL_ (some 8) rfl rfl Try.func63 (by kernel_rfl) rfl #[.slice A0_1 l0_1.length c0_1] rfl (by (try simp only [List.map_toArray, List.map_cons, List.map_nil]); rfl) ?_; (with_reducible refine (zelligeref03_Show.calls k _ _ l0_1 t990 _ ?side1 ?side2 A3.out).mono ?_); (case side1 => repeat (exact (Kd.C_below HR0_1.out HB.out))); (case side2 => exact HC0_1.out); rintro e w7 ⟨rfl, hb⟩; refine ⟨_, rfl, ?_⟩; replace BK989 := am (blk_below BK989.out hb); replace HB := am (below_step HB.out hb); (try clear hb)))
  go_ret
  exact ⟨by rfl, by with_reducible exact HB.out⟩
 ·
  rw [if_neg c2] at H
  have c2b0 : decide (a0_0 < 0) = false := decide_eq_false c2
  clear c2
  obtain ⟨t991, A8, H⟩ := bindE H
  obtain rfl := Option.some.inj H
  go_enter Try.func34, Try.ntmps34
  go_wp2_with (first | ((with_reducible refine gate_dst (N := 1) rfl ?_); refine box_event ?hg (N := 1) ?hd (cs := #[.int .i64 a0_0, .slice A0_1 l0_1.length c0_1]) (t := 33) ?hr ?_; (case hd => rfl); (case hg => rfl); (case hr => (go_simp; done)); intro gb989 hg w9 hbox hb; have BK989 := am hbox; have GW989 := am (gel hg HB.out); have GE989 := am (gel hg HB.out); replace HB := am (below_step HB.out hb); clear hb hbox hg; have hcz10_0 : w9.cell? ⟨gb989, 0, none⟩ = some (.int .i64 a0_0) := (blk_cell BK989.out 0).trans rfl; have hcz10_1 : w9.cell? ⟨gb989, 1, none⟩ = some (.slice A0_1 l0_1.length c0_1) := (blk_cell BK989.out 1).trans rfl; have hfz10_0 := blk_frozen BK989.out 0; have hfz10_1 := blk_frozen BK989.out 1) | ((with_reducible refine gate_callee (f := 63) rfl ?_); refine goesL_ (some 12) rfl rfl Try.func63 (by kernel_rfl) rfl #[.slice A0_1 l0_1.length c0_1] rfl (by (try simp only [List.map_toArray, List.map_cons, List.map_nil]); rfl) ?_; (with_reducible refine (zelligeref03_Show.calls k _ _ l0_1 t991 _ ?side1 ?side2 A8.out).mono ?_); (case side1 => repeat (exact (Kd.C_below HR0_1.out HB.out))); (case side2 => exact HC0_1.out); rintro e w11 ⟨rfl, hb⟩; refine ⟨_, rfl, ?_⟩; replace BK989 := am (blk_below BK989.out hb); replace HB := am (below_step HB.out hb); (try clear hb)))
  go_ret
  exact ⟨by rfl, by with_reducible exact HB.out⟩

end Go.Proofs.Ytmfmojldebhboaa.ZWhole
