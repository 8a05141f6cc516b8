-- printed by zprint.py, a program of this session's
import Derived.Test.YtmfmojldebhboaaZWhole0
import Derived.Test.YtmfmojldebhboaaZWholegRTrim
namespace Go.Proofs.Ytmfmojldebhboaa.ZWhole
open Go.RowKit Go.Proofs.YtmfmojldebhboaaW.PrintWords Go.Proofs.YtmfmojldebhboaaW.PrintLast Go.Proofs.YtmfmojldebhboaaW.PrintMore
set_option linter.unusedVariables false
set_option linter.unusedSimpArgs false

/-! ### zelligeref04_Of: function 13 -/
def zelligeref04_Of.f (k : Nat) (a0_0 : Bool) (l0_1 : List Int) : Option (Int × List Int) := (zelligeref03_Of.f k l0_1).bind fun jj => (if (jj.length : Int) = 0 then (some (0, ([] : List Int))) else (if a0_0 = true then (some ((-1), jj)) else (some (1, jj))))
theorem zelligeref04_Of.mono : ∀ a0 a1 k, LeO (zelligeref04_Of.f k a0 a1) (zelligeref04_Of.f (k + 1) a0 a1) := by
 intro a0 a1 k
 unfold zelligeref04_Of.f
 repeat' first
   | (with_reducible exact zelligeref03_Of.mono _ _)
   | (with_reducible exact LeO.refl _)
   | (with_reducible refine LeO.bind ?_ (fun _ => ?_))
set_option maxHeartbeats 8000000 in
set_option maxRecDepth 100000 in
theorem zelligeref04_Of.calls (k : Nat) (a0_0 : Bool) (je : Option Addr) (jf : Nat) (l0_1 : List Int) (r1 : Int) (r2 : List Int) (w : World) (hr0_1 : Kd.C (Kd.int .u32) w je l0_1.length l0_1) (hc0_1 : l0_1.length ≤ jf) (h : zelligeref04_Of.f k a0_0 l0_1 = some (r1, r2)) :
  Calls Try.prog 13 #[.agg #[.bool a0_0, .slice je l0_1.length jf]] w fun e w' => ∃ v1_ : Value, e = .returned (.agg #[.int .i64 r1, v1_]) ∧ Kd.R (Kd.int .i64) 3 w' w.heap.size (fun _ => True) v1_ r2 ∧ Below w.heap.size w w' := by
 have hu25 := Try.underlying25
 have hu33 := Try.underlying33
 have jw := am hr0_1
 have jx := am hc0_1
 clear hr0_1 hc0_1
 have HB := am (Below.refl w.heap.size w)
 have H : ((zelligeref03_Of.f k l0_1).bind fun jj => (if (jj.length : Int) = 0 then (some (0, ([] : List Int))) else (if a0_0 = true then (some ((-1), jj)) else (some (1, jj))))) = some (r1, r2) := h
 clear h
 obtain ⟨jj, A2, H⟩ := bindE H
 by_cases c3 : (jj.length : Int) = 0
 ·
  rw [if_pos c3] at H
  have c3b0 : ((jj.length : Int) == 0) = true := beq_iff_eq.mpr c3
  have c3b1 : ((jj.length : Int) != 0) = false := bne_eq_false_iff_eq.mpr c3
  clear c3
  simp only [Option.some.injEq, Prod.mk.injEq] at H
  obtain ⟨rfl, rfl⟩ := H
  go_enter Try.func13, Try.ntmps13
  go_wp2_with (first | ((with_reducible refine gate_dst (N := 1) rfl ?_); refine box_event ?hg (N := 1) ?hd (cs := #[.bool a0_0, .slice je l0_1.length jf]) (t := 25) ?hr ?_; (case hd => rfl); (case hg => rfl); (case hr => (go_simp; done)); intro jm hg w4 hbox hb; have ja := am hbox; have jN := am (gel hg HB.out); have jO := am (gel hg HB.out); replace HB := am (below_step HB.out hb); clear hb hbox hg) | ((with_reducible refine gate_dst (N := 2) rfl ?_); refine box_event ?hg (N := 2) ?hd (cs := #[.int .i64 0, .slice none 0 0]) (t := 33) ?hr ?_; (case hd => rfl); (case hg => rfl); (case hr => (go_simp; done)); intro jh hg w5 hbox hb; have jc := am hbox; have jP := am (gel hg HB.out); have jC := am (gel hg HB.out); replace HB := am (below_step HB.out hb); have jk := am (nel hg ja.out); have jl := am (ner hg ja.out); replace ja := am (blk_below ja.out hb); clear hb hbox hg; have zQ := jk.out; have zR := jl.out; have jV : w5.cell? ⟨jm, 0, none⟩ = some (.bool a0_0) := (blk_cell ja.out 0).trans rfl; have jW : w5.cell? ⟨jm, 1, none⟩ = some (.slice je l0_1.length jf) := (blk_cell ja.out 1).trans rfl; have jX := blk_frozen ja.out 0; have jY := blk_frozen ja.out 1) | ((with_reducible refine gate_callee (f := 49) rfl ?_); refine goesL_ (some 6) rfl rfl Try.func49 (by kernel_rfl) rfl #[.slice je l0_1.length jf] rfl (by (try simp only [List.map_toArray, List.map_cons, List.map_nil]); rfl) ?_; (with_reducible refine (zelligeref03_Of.calls k _ _ l0_1 jj _ ?side1 ?side2 A2.out).mono ?_); (case side1 => repeat (exact (Kd.C_below jw.out HB.out))); (case side2 => exact jx.out); rintro e w8 ⟨j5, rfl, ho0, hb⟩; refine ⟨_, rfl, ?_⟩; have js := am (Kd.R_lower ho0 (below_size HB.out)); replace ja := am (blk_below ja.out hb); replace jc := am (blk_below jc.out hb); replace HB := am (below_step HB.out hb); (try clear hb); (try clear ho0); obtain ⟨z2, z3, eo9⟩ := Kd.R_slice js.out; subst eo9; have qp : w8.cell? ⟨jh, 0, none⟩ = some (.int .i64 0) := (blk_cell jc.out 0).trans rfl; have qq : w8.cell? ⟨jh, 1, none⟩ = some (.slice none 0 0) := (blk_cell jc.out 1).trans rfl; have qr := blk_frozen jc.out 0; have qs := blk_frozen jc.out 1))
  refine bodyPost_ret (results_cell_row rfl _ _ jh 33 #[.int .i64 0, .slice none 0 0] (0, 0) _ rfl (by refine blk_put (cs := #[.int .i64 0, .slice none 0 0]) ?_ 1 _ rfl; refine blk_put (cs := #[.int .i64 0, .slice none 0 0]) ?_ 0 _ rfl; exact jc.out) Try.underlying33 rfl (by kernel_rfl)) rfl ?_
  exact ⟨_, by rfl, by exact Kd.R_nil _ _ _ _ _, by repeat ((with_reducible first | exact HB.out | refine below_set ?_ jC.out))⟩
 ·
  rw [if_neg c3] at H
  have c3b0 : ((jj.length : Int) == 0) = false := beq_eq_false_iff_ne.mpr c3
  have c3b1 : ((jj.length : Int) != 0) = true := bne_iff_ne.mpr c3
  have c3b2 : ¬ (jj = []) := fun h_ => c3 (by rw [h_]; rfl)
  by_cases qt : a0_0 = true
  ·
   subst qt
   rw [if_pos rfl] at H
   simp only [Option.some.injEq, Prod.mk.injEq] at H
   obtain ⟨rfl, rfl⟩ := H
   go_enter Try.func13, Try.ntmps13
   go_wp2_with (first | ((with_reducible refine gate_dst (N := 1) rfl ?_); refine box_event ?hg (N := 1) ?hd (cs := #[.bool true, .slice je l0_1.length jf]) (t := 25) ?hr ?_; (case hd => rfl); (case hg => rfl); (case hr => (go_simp; done)); intro jm hg z4 hbox hb; have ja := am hbox; have jN := am (gel hg HB.out); have jO := am (gel hg HB.out); replace HB := am (below_step HB.out hb); clear hb hbox hg) | ((with_reducible refine gate_dst (N := 2) rfl ?_); refine box_event ?hg (N := 2) ?hd (cs := #[.int .i64 0, .slice none 0 0]) (t := 33) ?hr ?_; (case hd => rfl); (case hg => rfl); (case hr => (go_simp; done)); intro jh hg zj hbox hb; have jc := am hbox; have jP := am (gel hg HB.out); have jC := am (gel hg HB.out); replace HB := am (below_step HB.out hb); have jk := am (nel hg ja.out); have jl := am (ner hg ja.out); replace ja := am (blk_below ja.out hb); clear hb hbox hg; have zE := jk.out; have zF := jl.out; have qu : zj.cell? ⟨jm, 0, none⟩ = some (.bool true) := (blk_cell ja.out 0).trans rfl; have qv : zj.cell? ⟨jm, 1, none⟩ = some (.slice je l0_1.length jf) := (blk_cell ja.out 1).trans rfl; have qw := blk_frozen ja.out 0; have qx := blk_frozen ja.out 1) | ((with_reducible refine gate_callee (f := 49) rfl ?_); refine goesL_ (some 6) rfl rfl Try.func49 (by kernel_rfl) rfl #[.slice je l0_1.length jf] rfl (by (try simp only [List.map_toArray, List.map_cons, List.map_nil]); rfl) ?_; (with_reducible refine (zelligeref03_Of.calls k _ _ l0_1 jj _ ?side1 ?side2 A2.out).mono ?_); (case side1 => repeat (exact (Kd.C_below jw.out HB.out))); (case side2 => exact jx.out); rintro e j6 ⟨j5, rfl, ho0, hb⟩; refine ⟨_, rfl, ?_⟩; have js := am (Kd.R_lower ho0 (below_size HB.out)); replace ja := am (blk_below ja.out hb); replace jc := am (blk_below jc.out hb); replace HB := am (below_step HB.out hb); (try clear hb); (try clear ho0); obtain ⟨j7, j8, eo17⟩ := Kd.R_slice js.out; subst eo17; have qy : j6.cell? ⟨jm, 0, none⟩ = some (.bool true) := (blk_cell ja.out 0).trans rfl; have qz : j6.cell? ⟨jm, 1, none⟩ = some (.slice je l0_1.length jf) := (blk_cell ja.out 1).trans rfl; have qA := blk_frozen ja.out 0; have qB := blk_frozen ja.out 1; have qC : j6.cell? ⟨jh, 0, none⟩ = some (.int .i64 0) := (blk_cell jc.out 0).trans rfl; have qD : j6.cell? ⟨jh, 1, none⟩ = some (.slice none 0 0) := (blk_cell jc.out 1).trans rfl; have qE := blk_frozen jc.out 0; have qF := blk_frozen jc.out 1))
   refine bodyPost_ret (results_cell_row rfl _ _ jh 33 #[.int .i64 (-1), .slice j7 jj.length j8] (0, 0) _ rfl (by refine blk_put (cs := #[.int .i64 (-1), .slice none 0 0]) ?_ 1 _ rfl; refine blk_put (cs := #[.int .i64 0, .slice none 0 0]) ?_ 0 _ rfl; exact jc.out) Try.underlying33 rfl (by kernel_rfl)) rfl ?_
   exact ⟨_, by rfl, by exact Kd.R_mono (Kd.R_far (p := ⟨jh, 1, none⟩) (Kd.R_far (p := ⟨jh, 0, none⟩) (Kd.R_types js.out jc.out (by decide)) (fun _ hk => hk.2) (.int .i64 (-1))) (fun _ hk => hk.2) (.slice j7 jj.length j8)) (fun _ hk => trivial), by repeat ((with_reducible first | exact HB.out | refine below_set ?_ jC.out))⟩
  ·
   replace qt := Bool.eq_false_iff.mpr qt
   subst qt
   rw [if_neg (show ¬ (false = true) by decide)] at H
   simp only [Option.some.injEq, Prod.mk.injEq] at H
   obtain ⟨rfl, rfl⟩ := H
   go_enter Try.func13, Try.ntmps13
   go_wp2_with (first | ((with_reducible refine gate_dst (N := 1) rfl ?_); refine box_event ?hg (N := 1) ?hd (cs := #[.bool false, .slice je l0_1.length jf]) (t := 25) ?hr ?_; (case hd => rfl); (case hg => rfl); (case hr => (go_simp; done)); intro jm hg z5 hbox hb; have ja := am hbox; have jN := am (gel hg HB.out); have jO := am (gel hg HB.out); replace HB := am (below_step HB.out hb); clear hb hbox hg) | ((with_reducible refine gate_dst (N := 2) rfl ?_); refine box_event ?hg (N := 2) ?hd (cs := #[.int .i64 0, .slice none 0 0]) (t := 33) ?hr ?_; (case hd => rfl); (case hg => rfl); (case hr => (go_simp; done)); intro jh hg zG hbox hb; have jc := am hbox; have jP := am (gel hg HB.out); have jC := am (gel hg HB.out); replace HB := am (below_step HB.out hb); have jk := am (nel hg ja.out); have jl := am (ner hg ja.out); replace ja := am (blk_below ja.out hb); clear hb hbox hg; have zH := jk.out; have zI := jl.out; have qG : zG.cell? ⟨jm, 0, none⟩ = some (.bool false) := (blk_cell ja.out 0).trans rfl; have qH : zG.cell? ⟨jm, 1, none⟩ = some (.slice je l0_1.length jf) := (blk_cell ja.out 1).trans rfl; have qI := blk_frozen ja.out 0; have qJ := blk_frozen ja.out 1) | ((with_reducible refine gate_callee (f := 49) rfl ?_); refine goesL_ (some 6) rfl rfl Try.func49 (by kernel_rfl) rfl #[.slice je l0_1.length jf] rfl (by (try simp only [List.map_toArray, List.map_cons, List.map_nil]); rfl) ?_; (with_reducible refine (zelligeref03_Of.calls k _ _ l0_1 jj _ ?side1 ?side2 A2.out).mono ?_); (case side1 => repeat (exact (Kd.C_below jw.out HB.out))); (case side2 => exact jx.out); rintro e qK ⟨j5, rfl, ho0, hb⟩; refine ⟨_, rfl, ?_⟩; have js := am (Kd.R_lower ho0 (below_size HB.out)); replace ja := am (blk_below ja.out hb); replace jc := am (blk_below jc.out hb); replace HB := am (below_step HB.out hb); (try clear hb); (try clear ho0); obtain ⟨j9, qa, eo25⟩ := Kd.R_slice js.out; subst eo25; have qL : qK.cell? ⟨jm, 0, none⟩ = some (.bool false) := (blk_cell ja.out 0).trans rfl; have qM : qK.cell? ⟨jm, 1, none⟩ = some (.slice je l0_1.length jf) := (blk_cell ja.out 1).trans rfl; have qN := blk_frozen ja.out 0; have qO := blk_frozen ja.out 1; have qP : qK.cell? ⟨jh, 0, none⟩ = some (.int .i64 0) := (blk_cell jc.out 0).trans rfl; have qQ : qK.cell? ⟨jh, 1, none⟩ = some (.slice none 0 0) := (blk_cell jc.out 1).trans rfl; have qR := blk_frozen jc.out 0; have qS := blk_frozen jc.out 1))
   refine bodyPost_ret (results_cell_row rfl _ _ jh 33 #[.int .i64 1, .slice j9 jj.length qa] (0, 0) _ rfl (by refine blk_put (cs := #[.int .i64 1, .slice none 0 0]) ?_ 1 _ rfl; refine blk_put (cs := #[.int .i64 0, .slice none 0 0]) ?_ 0 _ rfl; exact jc.out) Try.underlying33 rfl (by kernel_rfl)) rfl ?_
   exact ⟨_, by rfl, by exact Kd.R_mono (Kd.R_far (p := ⟨jh, 1, none⟩) (Kd.R_far (p := ⟨jh, 0, none⟩) (Kd.R_types js.out jc.out (by decide)) (fun _ hk => hk.2) (.int .i64 1)) (fun _ hk => hk.2) (.slice j9 jj.length qa)) (fun _ hk => trivial), by repeat ((with_reducible first | exact HB.out | refine below_set ?_ jC.out))⟩

/-! ### zelligeref04_Same: function 14 -/
def zelligeref04_Same.f (k : Nat) (a0_0 : Bool) (l0_1 : List Int) (a1_0 : Int) (l1_1 : List Int) : Option (Bool) := (zelligeref03_Same.f k l0_1 l1_1).bind fun jK => (if jK = true then (some (a0_0 == (decide (a1_0 < 0)))) else (some false))
theorem zelligeref04_Same.mono : ∀ a0 a1 a2 a3 k, LeO (zelligeref04_Same.f k a0 a1 a2 a3) (zelligeref04_Same.f (k + 1) a0 a1 a2 a3) := by
 intro a0 a1 a2 a3 k
 unfold zelligeref04_Same.f
 repeat' first
   | (with_reducible exact zelligeref03_Same.mono _ _ _)
   | (with_reducible exact LeO.refl _)
   | (with_reducible refine LeO.bind ?_ (fun _ => ?_))
set_option maxHeartbeats 8000000 in
set_option maxRecDepth 100000 in
theorem zelligeref04_Same.calls (k : Nat) (a0_0 : Bool) (je : Option Addr) (jf : Nat) (l0_1 : List Int) (a1_0 : Int) (jy : Option Addr) (jz : Nat) (l1_1 : List Int) (r : Bool) (w : World) (hr0_1 : Kd.C (Kd.int .u32) w je l0_1.length l0_1) (hc0_1 : l0_1.length ≤ jf) (hr1_1 : Kd.C (Kd.int .i64) w jy l1_1.length l1_1) (hc1_1 : l1_1.length ≤ jz) (h : zelligeref04_Same.f k a0_0 l0_1 a1_0 l1_1 = some r) :
  Calls Try.prog 14 #[.agg #[.bool a0_0, .slice je l0_1.length jf], .agg #[.int .i64 a1_0, .slice jy l1_1.length jz]] w fun e w' => e = .returned (.bool r) ∧ Below w.heap.size w w' := by
 have hu25 := Try.underlying25
 have hu33 := Try.underlying33
 have jw := am hr0_1
 have jx := am hc0_1
 clear hr0_1 hc0_1
 have jQ := am hr1_1
 have jR := am hc1_1
 clear hr1_1 hc1_1
 have HB := am (Below.refl w.heap.size w)
 have H : ((zelligeref03_Same.f k l0_1 l1_1).bind fun jK => (if jK = true then (some (a0_0 == (decide (a1_0 < 0)))) else (some false))) = some r := h
 clear h
 obtain ⟨jK, A3, H⟩ := bindE H
 by_cases c4 : jK = true
 ·
  subst c4
  rw [if_pos rfl] at H
  obtain rfl := Option.some.inj H
  go_enter Try.func14, Try.ntmps14
  go_wp2_with (first | ((with_reducible refine gate_dst (N := 2) rfl ?_); refine box_event ?hg (N := 2) ?hd (cs := #[.bool a0_0, .slice je l0_1.length jf]) (t := 25) ?hr ?_; (case hd => rfl); (case hg => rfl); (case hr => (go_simp; done)); intro jt hg w5 hbox hb; have jd := am hbox; have qb := am (gel hg HB.out); have qc := am (gel hg HB.out); replace HB := am (below_step HB.out hb); clear hb hbox hg) | ((with_reducible refine gate_dst (N := 3) rfl ?_); refine box_event ?hg (N := 3) ?hd (cs := #[.int .i64 a1_0, .slice jy l1_1.length jz]) (t := 33) ?hr ?_; (case hd => rfl); (case hg => rfl); (case hr => (go_simp; done)); intro ju hg w6 hbox hb; have jg := am hbox; have qd := am (gel hg HB.out); have qe := am (gel hg HB.out); replace HB := am (below_step HB.out hb); have jp := am (nel hg jd.out); have jq := am (ner hg jd.out); replace jd := am (blk_below jd.out hb); clear hb hbox hg; have zS := jp.out; have zT := jq.out; have zk : w6.cell? ⟨jt, 0, none⟩ = some (.bool a0_0) := (blk_cell jd.out 0).trans rfl; have zl : w6.cell? ⟨jt, 1, none⟩ = some (.slice je l0_1.length jf) := (blk_cell jd.out 1).trans rfl; have zm := blk_frozen jd.out 0; have zn := blk_frozen jd.out 1; have zo : w6.cell? ⟨ju, 0, none⟩ = some (.int .i64 a1_0) := (blk_cell jg.out 0).trans rfl; have zp : w6.cell? ⟨ju, 1, none⟩ = some (.slice jy l1_1.length jz) := (blk_cell jg.out 1).trans rfl; have zq := blk_frozen jg.out 0; have zr := blk_frozen jg.out 1) | ((with_reducible refine gate_callee (f := 36) rfl ?_); refine goesL_ (some 9) rfl rfl Try.func36 (by kernel_rfl) rfl #[.slice je l0_1.length jf, .slice jy l1_1.length jz] rfl (by (try simp only [List.map_toArray, List.map_cons, List.map_nil]); rfl) ?_; (with_reducible refine (zelligeref03_Same.calls k _ _ l0_1 _ _ l1_1 true _ ?side1 ?side2 ?side3 ?side4 A3.out).mono ?_); (case side1 => repeat (exact (Kd.C_below jw.out HB.out))); (case side2 => exact jx.out); (case side3 => repeat (exact (Kd.C_below jQ.out HB.out))); (case side4 => exact jR.out); rintro e qT ⟨rfl, hb⟩; refine ⟨_, rfl, ?_⟩; replace jd := am (blk_below jd.out hb); replace jg := am (blk_below jg.out hb); replace HB := am (below_step HB.out hb); (try clear hb); have qU : qT.cell? ⟨jt, 0, none⟩ = some (.bool a0_0) := (blk_cell jd.out 0).trans rfl; have qV : qT.cell? ⟨jt, 1, none⟩ = some (.slice je l0_1.length jf) := (blk_cell jd.out 1).trans rfl; have qW := blk_frozen jd.out 0; have qX := blk_frozen jd.out 1; have qY : qT.cell? ⟨ju, 0, none⟩ = some (.int .i64 a1_0) := (blk_cell jg.out 0).trans rfl; have qZ : qT.cell? ⟨ju, 1, none⟩ = some (.slice jy l1_1.length jz) := (blk_cell jg.out 1).trans rfl; have q0 := blk_frozen jg.out 0; have q1 := blk_frozen jg.out 1))
  go_ret
  exact ⟨by rfl, by with_reducible exact HB.out⟩
 ·
  replace c4 := Bool.eq_false_iff.mpr c4
  subst c4
  rw [if_neg (show ¬ (false = true) by decide)] at H
  obtain rfl := Option.some.inj H
  go_enter Try.func14, Try.ntmps14
  go_wp2_with (first | ((with_reducible refine gate_dst (N := 2) rfl ?_); refine box_event ?hg (N := 2) ?hd (cs := #[.bool a0_0, .slice je l0_1.length jf]) (t := 25) ?hr ?_; (case hd => rfl); (case hg => rfl); (case hr => (go_simp; done)); intro jt hg zj hbox hb; have jd := am hbox; have qb := am (gel hg HB.out); have qc := am (gel hg HB.out); replace HB := am (below_step HB.out hb); clear hb hbox hg) | ((with_reducible refine gate_dst (N := 3) rfl ?_); refine box_event ?hg (N := 3) ?hd (cs := #[.int .i64 a1_0, .slice jy l1_1.length jz]) (t := 33) ?hr ?_; (case hd => rfl); (case hg => rfl); (case hr => (go_simp; done)); intro ju hg q2 hbox hb; have jg := am hbox; have qd := am (gel hg HB.out); have qe := am (gel hg HB.out); replace HB := am (below_step HB.out hb); have jp := am (nel hg jd.out); have jq := am (ner hg jd.out); replace jd := am (blk_below jd.out hb); clear hb hbox hg; have zJ := jp.out; have zK := jq.out; have q3 : q2.cell? ⟨jt, 0, none⟩ = some (.bool a0_0) := (blk_cell jd.out 0).trans rfl; have q4 : q2.cell? ⟨jt, 1, none⟩ = some (.slice je l0_1.length jf) := (blk_cell jd.out 1).trans rfl; have q5 := blk_frozen jd.out 0; have q6 := blk_frozen jd.out 1; have q7 : q2.cell? ⟨ju, 0, none⟩ = some (.int .i64 a1_0) := (blk_cell jg.out 0).trans rfl; have q8 : q2.cell? ⟨ju, 1, none⟩ = some (.slice jy l1_1.length jz) := (blk_cell jg.out 1).trans rfl; have q9 := blk_frozen jg.out 0; have za := blk_frozen jg.out 1) | ((with_reducible refine gate_callee (f := 36) rfl ?_); refine goesL_ (some 9) rfl rfl Try.func36 (by kernel_rfl) rfl #[.slice je l0_1.length jf, .slice jy l1_1.length jz] rfl (by (try simp only [List.map_toArray, List.map_cons, List.map_nil]); rfl) ?_; (with_reducible refine (zelligeref03_Same.calls k _ _ l0_1 _ _ l1_1 false _ ?side1 ?side2 ?side3 ?side4 A3.out).mono ?_); (case side1 => repeat (exact (Kd.C_below jw.out HB.out))); (case side2 => exact jx.out); (case side3 => repeat (exact (Kd.C_below jQ.out HB.out))); (case side4 => exact jR.out); rintro e z6 ⟨rfl, hb⟩; refine ⟨_, rfl, ?_⟩; replace jd := am (blk_below jd.out hb); replace jg := am (blk_below jg.out hb); replace HB := am (below_step HB.out hb); (try clear hb)))
  go_ret
  exact ⟨by rfl, by with_reducible exact HB.out⟩

/-! ### zelligeref04_make1: function 51 -/
def zelligeref04_make1.f (a0 : Int) (l1 : List Int) : Option (Int × List Int) := if (l1.length : Int) = 0 then (some (0, ([] : List Int))) else (some (a0, l1))
set_option maxHeartbeats 8000000 in
set_option maxRecDepth 100000 in
theorem zelligeref04_make1.calls (a0 : Int) (P1_ : Nat → Prop) (A1 : Option Addr) (c1 : Nat) (l1 : List Int) (r1 : Int) (r2 : List Int) (w : World) (zU : Kd.V (Kd.int .i64) 3 w w.heap.size (fun k_ => P1_ k_) (.slice A1 l1.length c1) l1) (h : zelligeref04_make1.f a0 l1 = some (r1, r2)) :
  Calls Try.prog 51 #[.int .i64 a0, .slice A1 l1.length c1] w fun e w' => ∃ v1_ : Value, e = .returned (.agg #[.int .i64 r1, v1_]) ∧ Kd.V (Kd.int .i64) 3 w' w.heap.size (fun k_ => (P1_ k_ ∨ w.heap.size ≤ k_)) v1_ r2 ∧ Below w.heap.size w w' := by
 have hu33 := Try.underlying33
 have qf := am (show Kd.V (Kd.int .i64) 3 w w.heap.size (fun k_ => (P1_ k_ ∨ w.heap.size ≤ k_)) (.slice A1 l1.length c1) l1 from Kd.V_mono zU (fun k_ hk => .inl hk))
 have HB := am (Below.refl w.heap.size w)
 have H : (if (l1.length : Int) = 0 then (some (0, ([] : List Int))) else (some (a0, l1))) = some (r1, r2) := h
 clear h
 by_cases c3 : (l1.length : Int) = 0
 ·
  rw [if_pos c3] at H
  have c3b0 : ((l1.length : Int) == 0) = true := beq_iff_eq.mpr c3
  have c3b1 : ((l1.length : Int) != 0) = false := bne_eq_false_iff_eq.mpr c3
  clear c3
  simp only [Option.some.injEq, Prod.mk.injEq] at H
  obtain ⟨rfl, rfl⟩ := H
  go_enter Try.func51, Try.ntmps51
  go_wp2_with (((with_reducible refine gate_dst (N := 4) rfl ?_); refine box_event ?hg (N := 4) ?hd (cs := #[.int .i64 0, .slice none 0 0]) (t := 33) ?hr ?_; (case hd => rfl); (case hg => rfl); (case hr => (go_simp; done)); intro jn hg w4 hbox hb; replace qf := am (Kd.V_below (Kd.V_elderB qf.out jn (Nat.le_of_eq hg.symm)) hb); have jo := am hbox; have qg := am (gel hg HB.out); have jL := am (gel hg HB.out); replace HB := am (below_step HB.out hb); clear hb hbox hg; have jZ : w4.cell? ⟨jn, 0, none⟩ = some (.int .i64 0) := (blk_cell jo.out 0).trans rfl; have j0 : w4.cell? ⟨jn, 1, none⟩ = some (.slice none 0 0) := (blk_cell jo.out 1).trans rfl; have j1 := blk_frozen jo.out 0; have j2 := blk_frozen jo.out 1))
  refine bodyPost_ret (results_cell_row rfl _ _ jn 33 #[.int .i64 0, .slice none 0 0] (0, 0) _ rfl (by refine blk_put (cs := #[.int .i64 0, .slice none 0 0]) ?_ 1 _ rfl; refine blk_put (cs := #[.int .i64 0, .slice none 0 0]) ?_ 0 _ rfl; exact jo.out) Try.underlying33 rfl (by kernel_rfl)) rfl ?_
  exact ⟨_, by rfl, (Kd.V_nil _ _ _ _ _), by repeat ((with_reducible first | exact HB.out | refine below_set ?_ jL.out))⟩
 ·
  rw [if_neg c3] at H
  have c3b0 : ((l1.length : Int) == 0) = false := beq_eq_false_iff_ne.mpr c3
  have c3b1 : ((l1.length : Int) != 0) = true := bne_iff_ne.mpr c3
  have c3b2 : ¬ (l1 = []) := fun h_ => c3 (by rw [h_]; rfl)
  simp only [Option.some.injEq, Prod.mk.injEq] at H
  obtain ⟨rfl, rfl⟩ := H
  go_enter Try.func51, Try.ntmps51
  go_wp2_with (((with_reducible refine gate_dst (N := 4) rfl ?_); refine box_event ?hg (N := 4) ?hd (cs := #[.int .i64 0, .slice none 0 0]) (t := 33) ?hr ?_; (case hd => rfl); (case hg => rfl); (case hr => (go_simp; done)); intro jn hg w6 hbox hb; replace qf := am (Kd.V_below (Kd.V_elderB qf.out jn (Nat.le_of_eq hg.symm)) hb); have jo := am hbox; have qg := am (gel hg HB.out); have jL := am (gel hg HB.out); replace HB := am (below_step HB.out hb); clear hb hbox hg; have jV : w6.cell? ⟨jn, 0, none⟩ = some (.int .i64 0) := (blk_cell jo.out 0).trans rfl; have jW : w6.cell? ⟨jn, 1, none⟩ = some (.slice none 0 0) := (blk_cell jo.out 1).trans rfl; have jX := blk_frozen jo.out 0; have jY := blk_frozen jo.out 1))
  refine bodyPost_ret (results_cell_row rfl _ _ jn 33 #[.int .i64 a0, .slice A1 l1.length c1] (0, 0) _ rfl (by refine blk_put (cs := #[.int .i64 a0, .slice none 0 0]) ?_ 1 _ rfl; refine blk_put (cs := #[.int .i64 0, .slice none 0 0]) ?_ 0 _ rfl; exact jo.out) Try.underlying33 rfl (by kernel_rfl)) rfl ?_
  exact ⟨_, by rfl, by exact Kd.V_mono (Kd.V_far (p := ⟨jn, 1, none⟩) (Kd.V_far (p := ⟨jn, 0, none⟩) (Kd.V_mono qf.out (fun k_ hk => (⟨hk, hk.2⟩ : _ ∧ k_ ≠ jn))) (fun _ hk => hk.2) (.int .i64 a0)) (fun _ hk => hk.2) (.slice A1 l1.length c1)) (fun _ hk => hk.1.1), by repeat ((with_reducible first | exact HB.out | refine below_set ?_ jL.out))⟩

/-! ### zelligeref04_Neg: function 26 -/
def zelligeref04_Neg.f (a0_0 : Int) (l0_1 : List Int) : Option (Int × List Int) := some (wrap64 (-a0_0), l0_1)
set_option maxHeartbeats 8000000 in
set_option maxRecDepth 100000 in
theorem zelligeref04_Neg.calls (a0_0 : Int) (P0_1_ : Nat → Prop) (je : Option Addr) (jf : Nat) (l0_1 : List Int) (r1 : Int) (r2 : List Int) (w : World) (qh : Kd.V (Kd.int .i64) 3 w w.heap.size (fun k_ => P0_1_ k_) (.slice je l0_1.length jf) l0_1) (h : zelligeref04_Neg.f a0_0 l0_1 = some (r1, r2)) :
  Calls Try.prog 26 #[.agg #[.int .i64 a0_0, .slice je l0_1.length jf]] w fun e w' => ∃ v1_ : Value, e = .returned (.agg #[.int .i64 r1, v1_]) ∧ Kd.V (Kd.int .i64) 3 w' w.heap.size (fun k_ => (P0_1_ k_ ∨ w.heap.size ≤ k_)) v1_ r2 ∧ Below w.heap.size w w' := by
 have hu33 := Try.underlying33
 have jD := am (show Kd.V (Kd.int .i64) 3 w w.heap.size (fun k_ => (P0_1_ k_ ∨ w.heap.size ≤ k_)) (.slice je l0_1.length jf) l0_1 from Kd.V_mono qh (fun k_ hk => .inl hk))
 have HB := am (Below.refl w.heap.size w)
 have H : (some (wrap64 (-a0_0), l0_1)) = some (r1, r2) := h
 clear h
 simp only [Option.some.injEq, Prod.mk.injEq] at H
 obtain ⟨rfl, rfl⟩ := H
 go_enter Try.func26, Try.ntmps26
 go_wp2_with (first | ((with_reducible refine gate_dst (N := 1) rfl ?_); refine box_event ?hg (N := 1) ?hd (cs := #[.int .i64 a0_0, .slice je l0_1.length jf]) (t := 33) ?hr ?_; (case hd => rfl); (case hg => rfl); (case hr => (go_simp; done)); intro jM hg w2 hbox hb; replace jD := am (Kd.V_below (Kd.V_elderB jD.out jM (Nat.le_of_eq hg.symm)) hb); have jr := am hbox; have zL := am (gel hg HB.out); have zM := am (gel hg HB.out); replace HB := am (below_step HB.out hb); clear hb hbox hg) | ((with_reducible refine gate_dst (N := 2) rfl ?_); refine box_event ?hg (N := 2) ?hd (cs := #[.int .i64 0, .slice none 0 0]) (t := 33) ?hr ?_; (case hd => rfl); (case hg => rfl); (case hr => (go_simp; done)); intro jv hg w3 hbox hb; replace jD := am (Kd.V_below (Kd.V_elderB jD.out jv (Nat.le_of_eq hg.symm)) hb); have jE := am hbox; have zN := am (gel hg HB.out); have qi := am (gel hg HB.out); replace HB := am (below_step HB.out hb); have jI := am (nel hg jr.out); have jJ := am (ner hg jr.out); replace jr := am (blk_below jr.out hb); clear hb hbox hg; have zV := jI.out; have zW := jJ.out; have jZ : w3.cell? ⟨jM, 0, none⟩ = some (.int .i64 a0_0) := (blk_cell jr.out 0).trans rfl; have j0 : w3.cell? ⟨jM, 1, none⟩ = some (.slice je l0_1.length jf) := (blk_cell jr.out 1).trans rfl; have j1 := blk_frozen jr.out 0; have j2 := blk_frozen jr.out 1; have zs : w3.cell? ⟨jv, 0, none⟩ = some (.int .i64 0) := (blk_cell jE.out 0).trans rfl; have zt : w3.cell? ⟨jv, 1, none⟩ = some (.slice none 0 0) := (blk_cell jE.out 1).trans rfl; have zu := blk_frozen jE.out 0; have zv := blk_frozen jE.out 1))
 refine bodyPost_ret (results_cell_row rfl _ _ jv 33 #[.int .i64 (wrap64 (-a0_0)), .slice je l0_1.length jf] (0, 0) _ rfl (by refine blk_put (cs := #[.int .i64 (wrap64 (-a0_0)), .slice none 0 0]) ?_ 1 _ rfl; refine blk_put (cs := #[.int .i64 0, .slice none 0 0]) ?_ 0 _ rfl; exact jE.out) Try.underlying33 rfl (by kernel_rfl)) rfl ?_
 exact ⟨_, by rfl, by exact Kd.V_mono (Kd.V_far (p := ⟨jv, 1, none⟩) (Kd.V_far (p := ⟨jv, 0, none⟩) (Kd.V_mono jD.out (fun k_ hk => (⟨hk, hk.2⟩ : _ ∧ k_ ≠ jv))) (fun _ hk => hk.2) (.int .i64 (wrap64 (-a0_0)))) (fun _ hk => hk.2) (.slice je l0_1.length jf)) (fun _ hk => hk.1.1.1), by repeat ((with_reducible first | exact HB.out | refine below_set ?_ qi.out))⟩

/-! ### zelligeref04_Long: function 38 -/
def zelligeref04_Long.f (k : Nat) (a0 : Int) : Option (Int × List Int) := if a0 = 0 then (some (0, ([] : List Int))) else (if a0 < 0 then ((zelligeref03_Of.f k (([(IntKind.u64.wrap (-(IntKind.u64.wrap (a0)))) % 4294967296, ((IntKind.u64.wrap (-(IntKind.u64.wrap (a0)))) / 4294967296) % 4294967296] : List Int))).bind fun jA => (some ((-1), jA))) else ((zelligeref03_Of.f k (([(IntKind.u64.wrap (a0)) % 4294967296, ((IntKind.u64.wrap (a0)) / 4294967296) % 4294967296] : List Int))).bind fun jB => (some (1, jB))))
theorem zelligeref04_Long.mono : ∀ a0 k, LeO (zelligeref04_Long.f k a0) (zelligeref04_Long.f (k + 1) a0) := by
 intro a0 k
 unfold zelligeref04_Long.f
 repeat' first
   | (with_reducible exact zelligeref03_Of.mono _ _)
   | (with_reducible exact LeO.refl _)
   | (with_reducible refine LeO.ite ?_ ?_)
   | (with_reducible refine LeO.bind ?_ (fun _ => ?_))
set_option maxHeartbeats 8000000 in
set_option maxRecDepth 100000 in
theorem zelligeref04_Long.calls (k : Nat) (a0 : Int) (r1 : Int) (r2 : List Int) (w : World) (h : zelligeref04_Long.f k a0 = some (r1, r2)) :
  Calls Try.prog 38 #[.int .i64 a0] w fun e w' => ∃ v1_ : Value, e = .returned (.agg #[.int .i64 r1, v1_]) ∧ Kd.R (Kd.int .i64) 3 w' w.heap.size (fun _ => True) v1_ r2 ∧ Below w.heap.size w w' := by
 have hu33 := Try.underlying33
 have HB := am (Below.refl w.heap.size w)
 have H : (if a0 = 0 then (some (0, ([] : List Int))) else (if a0 < 0 then ((zelligeref03_Of.f k (([(IntKind.u64.wrap (-(IntKind.u64.wrap (a0)))) % 4294967296, ((IntKind.u64.wrap (-(IntKind.u64.wrap (a0)))) / 4294967296) % 4294967296] : List Int))).bind fun jA => (some ((-1), jA))) else ((zelligeref03_Of.f k (([(IntKind.u64.wrap (a0)) % 4294967296, ((IntKind.u64.wrap (a0)) / 4294967296) % 4294967296] : List Int))).bind fun jB => (some (1, jB))))) = some (r1, r2) := h
 clear h
 by_cases c2 : a0 = 0
 ·
  rw [if_pos c2] at H
  have c2b0 : (a0 == 0) = true := beq_iff_eq.mpr c2
  have c2b1 : (a0 != 0) = false := bne_eq_false_iff_eq.mpr c2
  clear c2
  simp only [Option.some.injEq, Prod.mk.injEq] at H
  obtain ⟨rfl, rfl⟩ := H
  go_enter Try.func38, Try.ntmps38
  go_wp2_with (((with_reducible refine gate_dst (N := 2) rfl ?_); refine box_event ?hg (N := 2) ?hd (cs := #[.int .i64 0, .slice none 0 0]) (t := 33) ?hr ?_; (case hd => rfl); (case hg => rfl); (case hr => (go_simp; done)); intro ji hg w3 hbox hb; have jb := am hbox; have jS := am (gel hg HB.out); have jF := am (gel hg HB.out); replace HB := am (below_step HB.out hb); clear hb hbox hg; have zw : w3.cell? ⟨ji, 0, none⟩ = some (.int .i64 0) := (blk_cell jb.out 0).trans rfl; have zx : w3.cell? ⟨ji, 1, none⟩ = some (.slice none 0 0) := (blk_cell jb.out 1).trans rfl; have zy := blk_frozen jb.out 0; have zz := blk_frozen jb.out 1))
  refine bodyPost_ret (results_cell_row rfl _ _ ji 33 #[.int .i64 0, .slice none 0 0] (0, 0) _ rfl (by refine blk_put (cs := #[.int .i64 0, .slice none 0 0]) ?_ 1 _ rfl; refine blk_put (cs := #[.int .i64 0, .slice none 0 0]) ?_ 0 _ rfl; exact jb.out) Try.underlying33 rfl (by kernel_rfl)) rfl ?_
  exact ⟨_, by rfl, by exact Kd.R_nil _ _ _ _ _, by repeat ((with_reducible first | exact HB.out | refine below_set ?_ jF.out))⟩
 ·
  rw [if_neg c2] at H
  have c2b0 : (a0 == 0) = false := beq_eq_false_iff_ne.mpr c2
  have c2b1 : (a0 != 0) = true := bne_iff_ne.mpr c2
  by_cases c5 : a0 < 0
  ·
   rw [if_pos c5] at H
   have c5b0 : decide (a0 < 0) = true := decide_eq_true c5
   clear c5
   obtain ⟨j3, hy714⟩ : ∃ y_ : List Int, y_ = (([(IntKind.u64.wrap (-(IntKind.u64.wrap (a0)))) % 4294967296, ((IntKind.u64.wrap (-(IntKind.u64.wrap (a0)))) / 4294967296) % 4294967296] : List Int)) := ⟨_, rfl⟩
   replace H : ((zelligeref03_Of.f k j3).bind fun jA => (some ((-1), jA))) = some (r1, r2) := by (rw [hy714]; with_reducible exact H)
   have qj := am hy714
   clear hy714
   obtain ⟨jA, A6, H⟩ := bindE H
   simp only [Option.some.injEq, Prod.mk.injEq] at H
   obtain ⟨rfl, rfl⟩ := H
   go_enter Try.func38, Try.ntmps38
   go_wp2_with (first | ((with_reducible refine gate_dst (N := 2) rfl ?_); refine box_event ?hg (N := 2) ?hd (cs := #[.int .i64 0, .slice none 0 0]) (t := 33) ?hr ?_; (case hd => rfl); (case hg => rfl); (case hr => (go_simp; done)); intro ji hg w7 hbox hb; have jb := am hbox; have jS := am (gel hg HB.out); have jF := am (gel hg HB.out); replace HB := am (below_step HB.out hb); clear hb hbox hg) | ((with_reducible refine gate_dst (N := 21) rfl ?_); refine Kd.R_lit (Kd.int .u32) _ 78 ?hg (N := 21) ?hd (xs := ([(IntKind.u64.wrap (-(IntKind.u64.wrap (a0)))) % 4294967296, ((IntKind.u64.wrap (-(IntKind.u64.wrap (a0)))) / 4294967296) % 4294967296] : List Int)) (inner := [.int .u32 ((IntKind.u64.wrap (-(IntKind.u64.wrap (a0)))) % 4294967296), .int .u32 (((IntKind.u64.wrap (-(IntKind.u64.wrap (a0)))) / 4294967296) % 4294967296)]) (ok := fun _ => True) (okp := fun _ => True) ?hr ?hp (fun _ hk => hk) trivial (Below.refl _ _) (Nat.le_refl _) (by simp) ?_; (case hd => rfl); (case hg => rfl); (case hr => (go_simp; done)); (case hp => exact (Reps.one (show Kd.M (Kd.int .u32) _ _ _ ((IntKind.u64.wrap (-(IntKind.u64.wrap (a0)))) % 4294967296) [.int .u32 ((IntKind.u64.wrap (-(IntKind.u64.wrap (a0)))) % 4294967296)] from rfl) (Reps.one (show Kd.M (Kd.int .u32) _ _ _ (((IntKind.u64.wrap (-(IntKind.u64.wrap (a0)))) / 4294967296) % 4294967296) [.int .u32 (((IntKind.u64.wrap (-(IntKind.u64.wrap (a0)))) / 4294967296) % 4294967296)] from rfl) (Reps.none _ _)))); intro zX w8 ho9 hb hg_ hnew_; clear hg_ hnew_; (rw [← qj.out] at ho9); have jG := am (Kd.R_lower ho9 (below_size HB.out)); replace jb := am (blk_below jb.out hb); replace HB := am (below_step HB.out hb); clear hb ho9; obtain ⟨zA, zB, eo10⟩ := Kd.R_slice jG.out; subst eo10) | ((with_reducible refine gate_callee (f := 49) rfl ?_); refine goesL_ (some 22) rfl rfl Try.func49 (by kernel_rfl) rfl #[.slice zA j3.length zB] rfl (by (try simp only [List.map_toArray, List.map_cons, List.map_nil]); rfl) ?_; (with_reducible refine (zelligeref03_Of.calls k _ _ j3 jA _ ?side1 ?side2 A6.out).mono ?_); (case side1 => exact (Kd.R_reads' jG.out).2.2); (case side2 => exact (Kd.R_reads' jG.out).2.1); rintro e zO ⟨zY, rfl, ho0, hb⟩; refine ⟨_, rfl, ?_⟩; replace jG := am (Kd.R_below jG.out hb); have jT := am (Kd.R_lower ho0 (below_size HB.out)); replace jb := am (blk_below jb.out hb); replace HB := am (below_step HB.out hb); (try clear hb); (try clear ho0); obtain ⟨qk, ql, eo12⟩ := Kd.R_slice jT.out; subst eo12; have zb : zO.cell? ⟨ji, 0, none⟩ = some (.int .i64 0) := (blk_cell jb.out 0).trans rfl; have zc : zO.cell? ⟨ji, 1, none⟩ = some (.slice none 0 0) := (blk_cell jb.out 1).trans rfl; have zd := blk_frozen jb.out 0; have ze := blk_frozen jb.out 1))
   refine bodyPost_ret (results_cell_row rfl _ _ ji 33 #[.int .i64 (-1), .slice qk jA.length ql] (0, 0) _ rfl (by refine blk_put (cs := #[.int .i64 (-1), .slice none 0 0]) ?_ 1 _ rfl; refine blk_put (cs := #[.int .i64 0, .slice none 0 0]) ?_ 0 _ rfl; exact jb.out) Try.underlying33 rfl (by kernel_rfl)) rfl ?_
   exact ⟨_, by rfl, by exact Kd.R_mono (Kd.R_far (p := ⟨ji, 1, none⟩) (Kd.R_far (p := ⟨ji, 0, none⟩) (Kd.R_types jT.out jb.out (by decide)) (fun _ hk => hk.2) (.int .i64 (-1))) (fun _ hk => hk.2) (.slice qk jA.length ql)) (fun _ hk => trivial), by repeat ((with_reducible first | exact HB.out | refine below_set ?_ jF.out))⟩
  ·
   rw [if_neg c5] at H
   have c5b0 : decide (a0 < 0) = false := decide_eq_false c5
   clear c5
   obtain ⟨j4, hy720⟩ : ∃ y_ : List Int, y_ = (([(IntKind.u64.wrap (a0)) % 4294967296, ((IntKind.u64.wrap (a0)) / 4294967296) % 4294967296] : List Int)) := ⟨_, rfl⟩
   replace H : ((zelligeref03_Of.f k j4).bind fun jB => (some (1, jB))) = some (r1, r2) := by (rw [hy720]; with_reducible exact H)
   have qm := am hy720
   clear hy720
   obtain ⟨jB, zZ, H⟩ := bindE H
   simp only [Option.some.injEq, Prod.mk.injEq] at H
   obtain ⟨rfl, rfl⟩ := H
   go_enter Try.func38, Try.ntmps38
   go_wp2_with (first | ((with_reducible refine gate_dst (N := 2) rfl ?_); refine box_event ?hg (N := 2) ?hd (cs := #[.int .i64 0, .slice none 0 0]) (t := 33) ?hr ?_; (case hd => rfl); (case hg => rfl); (case hr => (go_simp; done)); intro ji hg z7 hbox hb; have jb := am hbox; have jS := am (gel hg HB.out); have jF := am (gel hg HB.out); replace HB := am (below_step HB.out hb); clear hb hbox hg) | ((with_reducible refine gate_dst (N := 21) rfl ?_); refine Kd.R_lit (Kd.int .u32) _ 78 ?hg (N := 21) ?hd (xs := ([(IntKind.u64.wrap (a0)) % 4294967296, ((IntKind.u64.wrap (a0)) / 4294967296) % 4294967296] : List Int)) (inner := [.int .u32 ((IntKind.u64.wrap (a0)) % 4294967296), .int .u32 (((IntKind.u64.wrap (a0)) / 4294967296) % 4294967296)]) (ok := fun _ => True) (okp := fun _ => True) ?hr ?hp (fun _ hk => hk) trivial (Below.refl _ _) (Nat.le_refl _) (by simp) ?_; (case hd => rfl); (case hg => rfl); (case hr => (go_simp; done)); (case hp => exact (Reps.one (show Kd.M (Kd.int .u32) _ _ _ ((IntKind.u64.wrap (a0)) % 4294967296) [.int .u32 ((IntKind.u64.wrap (a0)) % 4294967296)] from rfl) (Reps.one (show Kd.M (Kd.int .u32) _ _ _ (((IntKind.u64.wrap (a0)) / 4294967296) % 4294967296) [.int .u32 (((IntKind.u64.wrap (a0)) / 4294967296) % 4294967296)] from rfl) (Reps.none _ _)))); intro z0 j6 ho17 hb hg_ hnew_; clear hg_ hnew_; (rw [← qm.out] at ho17); have jH := am (Kd.R_lower ho17 (below_size HB.out)); replace jb := am (blk_below jb.out hb); replace HB := am (below_step HB.out hb); clear hb ho17; obtain ⟨zC, zD, eo18⟩ := Kd.R_slice jH.out; subst eo18) | ((with_reducible refine gate_callee (f := 49) rfl ?_); refine goesL_ (some 22) rfl rfl Try.func49 (by kernel_rfl) rfl #[.slice zC j4.length zD] rfl (by (try simp only [List.map_toArray, List.map_cons, List.map_nil]); rfl) ?_; (with_reducible refine (zelligeref03_Of.calls k _ _ j4 jB _ ?side1 ?side2 zZ.out).mono ?_); (case side1 => exact (Kd.R_reads' jH.out).2.2); (case side2 => exact (Kd.R_reads' jH.out).2.1); rintro e zP ⟨z1, rfl, ho0, hb⟩; refine ⟨_, rfl, ?_⟩; replace jH := am (Kd.R_below jH.out hb); have jU := am (Kd.R_lower ho0 (below_size HB.out)); replace jb := am (blk_below jb.out hb); replace HB := am (below_step HB.out hb); (try clear hb); (try clear ho0); obtain ⟨qn, qo, eo20⟩ := Kd.R_slice jU.out; subst eo20; have zf : zP.cell? ⟨ji, 0, none⟩ = some (.int .i64 0) := (blk_cell jb.out 0).trans rfl; have zg : zP.cell? ⟨ji, 1, none⟩ = some (.slice none 0 0) := (blk_cell jb.out 1).trans rfl; have zh := blk_frozen jb.out 0; have zi := blk_frozen jb.out 1))
   refine bodyPost_ret (results_cell_row rfl _ _ ji 33 #[.int .i64 1, .slice qn jB.length qo] (0, 0) _ rfl (by refine blk_put (cs := #[.int .i64 1, .slice none 0 0]) ?_ 1 _ rfl; refine blk_put (cs := #[.int .i64 0, .slice none 0 0]) ?_ 0 _ rfl; exact jb.out) Try.underlying33 rfl (by kernel_rfl)) rfl ?_
   exact ⟨_, by rfl, by exact Kd.R_mono (Kd.R_far (p := ⟨ji, 1, none⟩) (Kd.R_far (p := ⟨ji, 0, none⟩) (Kd.R_types jU.out jb.out (by decide)) (fun _ hk => hk.2) (.int .i64 1)) (fun _ hk => hk.2) (.slice qn jB.length qo)) (fun _ hk => trivial), by repeat ((with_reducible first | exact HB.out | refine below_set ?_ jF.out))⟩

end Go.Proofs.Ytmfmojldebhboaa.ZWhole
