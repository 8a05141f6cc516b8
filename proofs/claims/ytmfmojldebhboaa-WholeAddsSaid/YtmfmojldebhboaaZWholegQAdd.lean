-- printed by zprint.py, a program of this session's
import Derived.Test.YtmfmojldebhboaaZWhole0
import Derived.Test.YtmfmojldebhboaaZWholegQOf
import Derived.Test.YtmfmojldebhboaaZWholegRAdd
import Derived.Test.YtmfmojldebhboaaZWholegRTrim
namespace Go.Proofs.Ytmfmojldebhboaa.ZWhole
open Go.RowKit Go.Proofs.YtmfmojldebhboaaW.PrintWords Go.Proofs.YtmfmojldebhboaaW.PrintLast Go.Proofs.YtmfmojldebhboaaW.PrintMore
set_option linter.unusedVariables false
set_option linter.unusedSimpArgs false

/-! ### zelligeref04_Add: function 20 -/
def zelligeref04_Add.f (k : Nat) (a0_0 : Int) (l0_1 : List Int) (a1_0 : Int) (l1_1 : List Int) : Option (Int × List Int) := if a0_0 = 0 then (some (a1_0, l1_1)) else (if a1_0 = 0 then (some (a0_0, l0_1)) else (if a0_0 = a1_0 then ((zelligeref03_Add.f k l0_1 l1_1).bind fun t549 => (some (a0_0, t549))) else ((zelligeref03_Cmp.f k l0_1 l1_1).bind fun t552 => (if t552 ≥ 0 then ((zelligeref03_Sub.f k l0_1 l1_1).bind fun t553 => ((zelligeref04_make1.f a0_0 t553).bind fun bt556 => (some (bt556.1, bt556.2)))) else ((zelligeref03_Sub.f k l1_1 l0_1).bind fun t560 => ((zelligeref04_make1.f a1_0 t560).bind fun bt563 => (some (bt563.1, bt563.2))))))))
theorem zelligeref04_Add.mono : ∀ a0 a1 a2 a3 k, LeO (zelligeref04_Add.f k a0 a1 a2 a3) (zelligeref04_Add.f (k + 1) a0 a1 a2 a3) := by
 intro a0 a1 a2 a3 k
 unfold zelligeref04_Add.f
 repeat' first
   | (with_reducible exact zelligeref03_Add.mono _ _ _)
   | (with_reducible exact zelligeref03_Cmp.mono _ _ _)
   | (with_reducible exact zelligeref03_Sub.mono _ _ _)
   | (with_reducible exact LeO.refl _)
   | (with_reducible refine LeO.ite ?_ ?_)
   | (with_reducible refine LeO.bind ?_ (fun _ => ?_))
def zelligeref04_Add.T6 : Bool × List (List Nat × List Nat) := (true, [([], []), ([0], [0]), ([], []), ([2], [2]), ([], []), ([4], [4]), ([3, 5], [3, 5]), ([1, 6], [1, 6]), ([7, 6, 0, 1, 2, 3, 4, 5, 6, 7], [7])])
def zelligeref04_Add.B6 : List Nat := [0, 1, 0, 4, 0, 16, 60, 127, 255]
theorem zelligeref04_Add.tab6 : rtab .any (opsOf Try.f20 6) = zelligeref04_Add.T6 := by kernel_rfl
theorem zelligeref04_Add.bits6 : waitsOk zelligeref04_Add.T6.2 zelligeref04_Add.B6 = true := by kernel_rfl
def zelligeref04_Add.T8 : Bool × List (List Nat × List Nat) := (true, [([], []), ([0], [0]), ([], []), ([2], [2]), ([], []), ([4], [4]), ([3, 5], [3, 5]), ([1, 6, 6], [1, 6]), ([7, 7, 0, 1, 2, 3, 4, 5, 6, 7], [7])])
def zelligeref04_Add.B8 : List Nat := [0, 1, 0, 4, 0, 16, 60, 127, 255]
theorem zelligeref04_Add.tab8 : rtab .any (opsOf Try.f20 8) = zelligeref04_Add.T8 := by kernel_rfl
theorem zelligeref04_Add.bits8 : waitsOk zelligeref04_Add.T8.2 zelligeref04_Add.B8 = true := by kernel_rfl
def zelligeref04_Add.T9 : Bool × List (List Nat × List Nat) := (true, [([], []), ([0], [0]), ([], []), ([2], [2]), ([], []), ([4], [4]), ([3, 5], [3, 5]), ([1, 6, 6], [1, 6]), ([7, 7, 0, 1, 2, 3, 4, 5, 6, 7], [7])])
def zelligeref04_Add.B9 : List Nat := [0, 1, 0, 4, 0, 16, 60, 127, 255]
theorem zelligeref04_Add.tab9 : rtab .any (opsOf Try.f20 9) = zelligeref04_Add.T9 := by kernel_rfl
theorem zelligeref04_Add.bits9 : waitsOk zelligeref04_Add.T9.2 zelligeref04_Add.B9 = true := by kernel_rfl
set_option maxHeartbeats 8000000 in
set_option maxRecDepth 100000 in
theorem zelligeref04_Add.calls (k : Nat) (a0_0 : Int) (P0_1_ : Nat → Prop) (A0_1 : Option Addr) (c0_1 : Nat) (l0_1 : List Int) (a1_0 : Int) (P1_1_ : Nat → Prop) (A1_1 : Option Addr) (c1_1 : Nat) (l1_1 : List Int) (r1 : Int) (r2 : List Int) (w : World) (hs0_1 : Kd.V (Kd.int .i64) 3 w w.heap.size (fun k_ => P0_1_ k_) (.slice A0_1 l0_1.length c0_1) l0_1) (hs1_1 : Kd.V (Kd.int .i64) 3 w w.heap.size (fun k_ => P1_1_ k_) (.slice A1_1 l1_1.length c1_1) l1_1) (h : zelligeref04_Add.f k a0_0 l0_1 a1_0 l1_1 = some (r1, r2)) :
  Calls Try.prog 20 #[.agg #[.int .i64 a0_0, .slice A0_1 l0_1.length c0_1], .agg #[.int .i64 a1_0, .slice A1_1 l1_1.length c1_1]] w fun e w' => ∃ v1_ : Value, e = .returned (.agg #[.int .i64 r1, v1_]) ∧ Kd.V (Kd.int .i64) 3 w' w.heap.size (fun k_ => ((P0_1_ k_ ∨ P1_1_ k_) ∨ w.heap.size ≤ k_)) v1_ r2 ∧ Below w.heap.size w w' := by
 have hu33 := Try.underlying33
 have HO0_1 := am (show Kd.V (Kd.int .i64) 3 w w.heap.size (fun k_ => ((P0_1_ k_ ∨ P1_1_ k_) ∨ w.heap.size ≤ k_)) (.slice A0_1 l0_1.length c0_1) l0_1 from Kd.V_mono hs0_1 (fun k_ hk => .inl (.inl hk)))
 have HO1_1 := am (show Kd.V (Kd.int .i64) 3 w w.heap.size (fun k_ => ((P0_1_ k_ ∨ P1_1_ k_) ∨ w.heap.size ≤ k_)) (.slice A1_1 l1_1.length c1_1) l1_1 from Kd.V_mono hs1_1 (fun k_ hk => .inl (.inr hk)))
 have HB := am (Below.refl w.heap.size w)
 have H : (if a0_0 = 0 then (some (a1_0, l1_1)) else (if a1_0 = 0 then (some (a0_0, l0_1)) else (if a0_0 = a1_0 then ((zelligeref03_Add.f k l0_1 l1_1).bind fun t549 => (some (a0_0, t549))) else ((zelligeref03_Cmp.f k l0_1 l1_1).bind fun t552 => (if t552 ≥ 0 then ((zelligeref03_Sub.f k l0_1 l1_1).bind fun t553 => ((zelligeref04_make1.f a0_0 t553).bind fun bt556 => (some (bt556.1, bt556.2)))) else ((zelligeref03_Sub.f k l1_1 l0_1).bind fun t560 => ((zelligeref04_make1.f a1_0 t560).bind fun bt563 => (some (bt563.1, bt563.2))))))))) = some (r1, r2) := h
 clear h
 by_cases c3 : a0_0 = 0
 ·
  rw [if_pos c3] at H
  have c3b0 : (a0_0 == 0) = true := beq_iff_eq.mpr c3
  have c3b1 : (a0_0 != 0) = false := bne_eq_false_iff_eq.mpr c3
  clear c3
  simp only [Option.some.injEq, Prod.mk.injEq] at H
  obtain ⟨rfl, rfl⟩ := H
  go_enter Try.func20, Try.ntmps20
  go_wp2_with (first | ((with_reducible refine gate_dst (N := 2) rfl ?_); refine box_event ?hg (N := 2) ?hd (cs := #[.int .i64 a0_0, .slice A0_1 l0_1.length c0_1]) (t := 33) ?hr ?_; (case hd => rfl); (case hg => rfl); (case hr => (go_simp; done)); intro gb546 hg w4 hbox hb; replace HO0_1 := am (Kd.V_below (Kd.V_elderB HO0_1.out gb546 (Nat.le_of_eq hg.symm)) hb); replace HO1_1 := am (Kd.V_below (Kd.V_elderB HO1_1.out gb546 (Nat.le_of_eq hg.symm)) hb); have BK546 := am hbox; have GW546 := am (gel hg HB.out); have GE546 := am (gel hg HB.out); replace HB := am (below_step HB.out hb); clear hb hbox hg) | ((with_reducible refine gate_dst (N := 3) rfl ?_); refine box_event ?hg (N := 3) ?hd (cs := #[.int .i64 a1_0, .slice A1_1 l1_1.length c1_1]) (t := 33) ?hr ?_; (case hd => rfl); (case hg => rfl); (case hr => (go_simp; done)); intro gb547 hg w5 hbox hb; replace HO0_1 := am (Kd.V_below (Kd.V_elderB HO0_1.out gb547 (Nat.le_of_eq hg.symm)) hb); replace HO1_1 := am (Kd.V_below (Kd.V_elderB HO1_1.out gb547 (Nat.le_of_eq hg.symm)) hb); have BK547 := am hbox; have GW547 := am (gel hg HB.out); have GE547 := am (gel hg HB.out); replace HB := am (below_step HB.out hb); have NB546_547 := am (nel hg BK546.out); have NB547_546 := am (ner hg BK546.out); replace BK546 := am (blk_below BK546.out hb); clear hb hbox hg) | ((with_reducible refine gate_dst (N := 4) rfl ?_); refine box_event ?hg (N := 4) ?hd (cs := #[.int .i64 0, .slice none 0 0]) (t := 33) ?hr ?_; (case hd => rfl); (case hg => rfl); (case hr => (go_simp; done)); intro gb548 hg w6 hbox hb; replace HO0_1 := am (Kd.V_below (Kd.V_elderB HO0_1.out gb548 (Nat.le_of_eq hg.symm)) hb); replace HO1_1 := am (Kd.V_below (Kd.V_elderB HO1_1.out gb548 (Nat.le_of_eq hg.symm)) hb); have BK548 := am hbox; have GW548 := am (gel hg HB.out); have GE548 := am (gel hg HB.out); replace HB := am (below_step HB.out hb); have NB546_548 := am (nel hg BK546.out); have NB548_546 := am (ner hg BK546.out); replace BK546 := am (blk_below BK546.out hb); have NB547_548 := am (nel hg BK547.out); have NB548_547 := am (ner hg BK547.out); replace BK547 := am (blk_below BK547.out hb); clear hb hbox hg; have hnb7 := NB546_547.out; have hnc7 := NB547_546.out; have hnb8 := NB546_548.out; have hnc8 := NB548_546.out; have hcz9_0 : w6.cell? ⟨gb546, 0, none⟩ = some (.int .i64 a0_0) := (blk_cell BK546.out 0).trans rfl; have hcz9_1 : w6.cell? ⟨gb546, 1, none⟩ = some (.slice A0_1 l0_1.length c0_1) := (blk_cell BK546.out 1).trans rfl; have hfz9_0 := blk_frozen BK546.out 0; have hfz9_1 := blk_frozen BK546.out 1; have hnb10 := NB547_548.out; have hnc10 := NB548_547.out; have hcz11_0 : w6.cell? ⟨gb547, 0, none⟩ = some (.int .i64 a1_0) := (blk_cell BK547.out 0).trans rfl; have hcz11_1 : w6.cell? ⟨gb547, 1, none⟩ = some (.slice A1_1 l1_1.length c1_1) := (blk_cell BK547.out 1).trans rfl; have hfz11_0 := blk_frozen BK547.out 0; have hfz11_1 := blk_frozen BK547.out 1; have hcz12_0 : w6.cell? ⟨gb548, 0, none⟩ = some (.int .i64 0) := (blk_cell BK548.out 0).trans rfl; have hcz12_1 : w6.cell? ⟨gb548, 1, none⟩ = some (.slice none 0 0) := (blk_cell BK548.out 1).trans rfl; have hfz12_0 := blk_frozen BK548.out 0; have hfz12_1 := blk_frozen BK548.out 1))
  refine bodyPost_ret (results_cell_row rfl _ _ gb548 33 #[.int .i64 a1_0, .slice A1_1 l1_1.length c1_1] (0, 0) _ rfl (by refine blk_put (cs := #[.int .i64 a1_0, .slice none 0 0]) ?_ 1 _ rfl; refine blk_put (cs := #[.int .i64 0, .slice none 0 0]) ?_ 0 _ rfl; exact BK548.out) Try.underlying33 rfl (by kernel_rfl)) rfl ?_
  exact ⟨_, by rfl, by exact Kd.V_mono (Kd.V_far (p := ⟨gb548, 1, none⟩) (Kd.V_far (p := ⟨gb548, 0, none⟩) (Kd.V_mono HO1_1.out (fun k_ hk => (⟨hk, hk.2⟩ : _ ∧ k_ ≠ gb548))) (fun _ hk => hk.2) (.int .i64 a1_0)) (fun _ hk => hk.2) (.slice A1_1 l1_1.length c1_1)) (fun _ hk => hk.1.1.1.1), by repeat ((with_reducible first | exact HB.out | refine below_set ?_ GE548.out))⟩
 ·
  rw [if_neg c3] at H
  have c3b0 : (a0_0 == 0) = false := beq_eq_false_iff_ne.mpr c3
  have c3b1 : (a0_0 != 0) = true := bne_iff_ne.mpr c3
  by_cases c13 : a1_0 = 0
  ·
   rw [if_pos c13] at H
   have c13b0 : (a1_0 == 0) = true := beq_iff_eq.mpr c13
   have c13b1 : (a1_0 != 0) = false := bne_eq_false_iff_eq.mpr c13
   clear c13
   simp only [Option.some.injEq, Prod.mk.injEq] at H
   obtain ⟨rfl, rfl⟩ := H
   go_enter Try.func20, Try.ntmps20
   go_wp2_with (first | ((with_reducible refine gate_dst (N := 2) rfl ?_); refine box_event ?hg (N := 2) ?hd (cs := #[.int .i64 a0_0, .slice A0_1 l0_1.length c0_1]) (t := 33) ?hr ?_; (case hd => rfl); (case hg => rfl); (case hr => (go_simp; done)); intro gb546 hg w14 hbox hb; replace HO0_1 := am (Kd.V_below (Kd.V_elderB HO0_1.out gb546 (Nat.le_of_eq hg.symm)) hb); replace HO1_1 := am (Kd.V_below (Kd.V_elderB HO1_1.out gb546 (Nat.le_of_eq hg.symm)) hb); have BK546 := am hbox; have GW546 := am (gel hg HB.out); have GE546 := am (gel hg HB.out); replace HB := am (below_step HB.out hb); clear hb hbox hg) | ((with_reducible refine gate_dst (N := 3) rfl ?_); refine box_event ?hg (N := 3) ?hd (cs := #[.int .i64 a1_0, .slice A1_1 l1_1.length c1_1]) (t := 33) ?hr ?_; (case hd => rfl); (case hg => rfl); (case hr => (go_simp; done)); intro gb547 hg w15 hbox hb; replace HO0_1 := am (Kd.V_below (Kd.V_elderB HO0_1.out gb547 (Nat.le_of_eq hg.symm)) hb); replace HO1_1 := am (Kd.V_below (Kd.V_elderB HO1_1.out gb547 (Nat.le_of_eq hg.symm)) hb); have BK547 := am hbox; have GW547 := am (gel hg HB.out); have GE547 := am (gel hg HB.out); replace HB := am (below_step HB.out hb); have NB546_547 := am (nel hg BK546.out); have NB547_546 := am (ner hg BK546.out); replace BK546 := am (blk_below BK546.out hb); clear hb hbox hg) | ((with_reducible refine gate_dst (N := 4) rfl ?_); refine box_event ?hg (N := 4) ?hd (cs := #[.int .i64 0, .slice none 0 0]) (t := 33) ?hr ?_; (case hd => rfl); (case hg => rfl); (case hr => (go_simp; done)); intro gb548 hg w16 hbox hb; replace HO0_1 := am (Kd.V_below (Kd.V_elderB HO0_1.out gb548 (Nat.le_of_eq hg.symm)) hb); replace HO1_1 := am (Kd.V_below (Kd.V_elderB HO1_1.out gb548 (Nat.le_of_eq hg.symm)) hb); have BK548 := am hbox; have GW548 := am (gel hg HB.out); have GE548 := am (gel hg HB.out); replace HB := am (below_step HB.out hb); have NB546_548 := am (nel hg BK546.out); have NB548_546 := am (ner hg BK546.out); replace BK546 := am (blk_below BK546.out hb); have NB547_548 := am (nel hg BK547.out); have NB548_547 := am (ner hg BK547.out); replace BK547 := am (blk_below BK547.out hb); clear hb hbox hg; have hnb17 := NB546_547.out; have hnc17 := NB547_546.out; have hnb18 := NB546_548.out; have hnc18 := NB548_546.out; have hcz19_0 : w16.cell? ⟨gb546, 0, none⟩ = some (.int .i64 a0_0) := (blk_cell BK546.out 0).trans rfl; have hcz19_1 : w16.cell? ⟨gb546, 1, none⟩ = some (.slice A0_1 l0_1.length c0_1) := (blk_cell BK546.out 1).trans rfl; have hfz19_0 := blk_frozen BK546.out 0; have hfz19_1 := blk_frozen BK546.out 1; have hnb20 := NB547_548.out; have hnc20 := NB548_547.out; have hcz21_0 : w16.cell? ⟨gb547, 0, none⟩ = some (.int .i64 a1_0) := (blk_cell BK547.out 0).trans rfl; have hcz21_1 : w16.cell? ⟨gb547, 1, none⟩ = some (.slice A1_1 l1_1.length c1_1) := (blk_cell BK547.out 1).trans rfl; have hfz21_0 := blk_frozen BK547.out 0; have hfz21_1 := blk_frozen BK547.out 1; have hcz22_0 : w16.cell? ⟨gb548, 0, none⟩ = some (.int .i64 0) := (blk_cell BK548.out 0).trans rfl; have hcz22_1 : w16.cell? ⟨gb548, 1, none⟩ = some (.slice none 0 0) := (blk_cell BK548.out 1).trans rfl; have hfz22_0 := blk_frozen BK548.out 0; have hfz22_1 := blk_frozen BK548.out 1))
   refine bodyPost_ret (results_cell_row rfl _ _ gb548 33 #[.int .i64 a0_0, .slice A0_1 l0_1.length c0_1] (0, 0) _ rfl (by refine blk_put (cs := #[.int .i64 a0_0, .slice none 0 0]) ?_ 1 _ rfl; refine blk_put (cs := #[.int .i64 0, .slice none 0 0]) ?_ 0 _ rfl; exact BK548.out) Try.underlying33 rfl (by kernel_rfl)) rfl ?_
   exact ⟨_, by rfl, by exact Kd.V_mono (Kd.V_far (p := ⟨gb548, 1, none⟩) (Kd.V_far (p := ⟨gb548, 0, none⟩) (Kd.V_mono HO0_1.out (fun k_ hk => (⟨hk, hk.2⟩ : _ ∧ k_ ≠ gb548))) (fun _ hk => hk.2) (.int .i64 a0_0)) (fun _ hk => hk.2) (.slice A0_1 l0_1.length c0_1)) (fun _ hk => hk.1.1.1.1), by repeat ((with_reducible first | exact HB.out | refine below_set ?_ GE548.out))⟩
  ·
   rw [if_neg c13] at H
   have c13b0 : (a1_0 == 0) = false := beq_eq_false_iff_ne.mpr c13
   have c13b1 : (a1_0 != 0) = true := bne_iff_ne.mpr c13
   by_cases c23 : a0_0 = a1_0
   ·
    rw [if_pos c23] at H
    have c23b0 : (a0_0 == a1_0) = true := beq_iff_eq.mpr c23
    have c23b1 : (a0_0 != a1_0) = false := bne_eq_false_iff_eq.mpr c23
    clear c23
    obtain ⟨t549, A24, H⟩ := bindE H
    simp only [Option.some.injEq, Prod.mk.injEq] at H
    obtain ⟨rfl, rfl⟩ := H
    go_enter Try.func20, Try.ntmps20
    try go_wp2_with (first | ((with_reducible refine gate_dst (N := 2) rfl ?_); refine box_event ?hg (N := 2) ?hd (cs := #[.int .i64 a0_0, .slice A0_1 l0_1.length c0_1]) (t := 33) ?hr ?_; (case hd => rfl); (case hg => rfl); (case hr => (go_simp; done)); intro gb546 hg w25 hbox hb; replace HO0_1 := am (Kd.V_below (Kd.V_elderB HO0_1.out gb546 (Nat.le_of_eq hg.symm)) hb); replace HO1_1 := am (Kd.V_below (Kd.V_elderB HO1_1.out gb546 (Nat.le_of_eq hg.symm)) hb); have BK546 := am hbox; have GW546 := am (gel hg HB.out); have GE546 := am (gel hg HB.out); replace HB := am (below_step HB.out hb); clear hb hbox hg) | ((with_reducible refine gate_dst (N := 3) rfl ?_); refine box_event ?hg (N := 3) ?hd (cs := #[.int .i64 a1_0, .slice A1_1 l1_1.length c1_1]) (t := 33) ?hr ?_; (case hd => rfl); (case hg => rfl); (case hr => (go_simp; done)); intro gb547 hg w26 hbox hb; replace HO0_1 := am (Kd.V_below (Kd.V_elderB HO0_1.out gb547 (Nat.le_of_eq hg.symm)) hb); replace HO1_1 := am (Kd.V_below (Kd.V_elderB HO1_1.out gb547 (Nat.le_of_eq hg.symm)) hb); have BK547 := am hbox; have GW547 := am (gel hg HB.out); have GE547 := am (gel hg HB.out); replace HB := am (below_step HB.out hb); have NB546_547 := am (nel hg BK546.out); have NB547_546 := am (ner hg BK546.out); replace BK546 := am (blk_below BK546.out hb); clear hb hbox hg) | ((with_reducible refine gate_dst (N := 4) rfl ?_); refine box_event ?hg (N := 4) ?hd (cs := #[.int .i64 0, .slice none 0 0]) (t := 33) ?hr ?_; (case hd => rfl); (case hg => rfl); (case hr => (go_simp; done)); intro gb548 hg w27 hbox hb; replace HO0_1 := am (Kd.V_below (Kd.V_elderB HO0_1.out gb548 (Nat.le_of_eq hg.symm)) hb); replace HO1_1 := am (Kd.V_below (Kd.V_elderB HO1_1.out gb548 (Nat.le_of_eq hg.symm)) hb); have BK548 := am hbox; have GW548 := am (gel hg HB.out); have GE548 := am (gel hg HB.out); replace HB := am (below_step HB.out hb); have NB546_548 := am (nel hg BK546.out); have NB548_546 := am (ner hg BK546.out); replace BK546 := am (blk_below BK546.out hb); have NB547_548 := am (nel hg BK547.out); have NB548_547 := am (ner hg BK547.out); replace BK547 := am (blk_below BK547.out hb); clear hb hbox hg; have hnb28 := NB546_547.out; have hnc28 := NB547_546.out; have hnb29 := NB546_548.out; have hnc29 := NB548_546.out; have hcz30_0 : w27.cell? ⟨gb546, 0, none⟩ = some (.int .i64 a0_0) := (blk_cell BK546.out 0).trans rfl; have hcz30_1 : w27.cell? ⟨gb546, 1, none⟩ = some (.slice A0_1 l0_1.length c0_1) := (blk_cell BK546.out 1).trans rfl; have hfz30_0 := blk_frozen BK546.out 0; have hfz30_1 := blk_frozen BK546.out 1; have hnb31 := NB547_548.out; have hnc31 := NB548_547.out; have hcz32_0 : w27.cell? ⟨gb547, 0, none⟩ = some (.int .i64 a1_0) := (blk_cell BK547.out 0).trans rfl; have hcz32_1 : w27.cell? ⟨gb547, 1, none⟩ = some (.slice A1_1 l1_1.length c1_1) := (blk_cell BK547.out 1).trans rfl; have hfz32_0 := blk_frozen BK547.out 0; have hfz32_1 := blk_frozen BK547.out 1))
    replace HO0_1 := am (Kd.V_drew HO0_1.out)
    replace HO1_1 := am (Kd.V_drew HO1_1.out)
    replace BK546 := am (blk_drew BK546.out)
    replace BK547 := am (blk_drew BK547.out)
    replace BK548 := am (blk_drew BK548.out)
    replace HB := am (below_drew1 HB.out)
    refine start_ (n := 9) (S := fun w' => w'.cell? ⟨gb546, 0, none⟩ = some (.int .i64 a0_0) ∧ w'.cell? ⟨gb546, 1, none⟩ = some (.slice A0_1 l0_1.length c0_1) ∧ w'.cell? ⟨gb547, 0, none⟩ = some (.int .i64 a1_0) ∧ w'.cell? ⟨gb547, 1, none⟩ = some (.slice A1_1 l1_1.length c1_1)) (ds := []) #[false, false, false, false, false, false, false, false, false] (by kernel_rfl) rfl rfl ⟨(blk_cell BK546.out 0).trans rfl, (blk_cell BK546.out 1).trans rfl, (blk_cell BK547.out 0).trans rfl, (blk_cell BK547.out 1).trans rfl⟩ (fun hHeld => ?_); refine with_tabW zelligeref04_Add.tab6 zelligeref04_Add.bits6 (fun HT_ HW_ => ?_)
    generalize w27.drew = w33 at HO0_1 HO1_1 BK546 BK547 BK548 HB hHeld ⊢
    refine pure_ (i := 0) (N := some 18) (v := ?_) (a' := ?_) #[true, false, false, false, false, false, false, false, false] rfl rfl (any_of HT_.out (by kernel_rfl)) (fun _ _ _ h => h) (Or.inl ⟨by rfl, ?_⟩) ?_ ?_
    rotate_left
    ·
     intro w'
     go_simp
     with_reducible rfl
    rotate_left
    ·
     simp only [Act.put, sI_, s0_, s1_, i64_w, i32_w]
     rfl
    refine pure_ (i := 2) (N := some 20) (v := ?_) (a' := ?_) #[true, false, true, false, false, false, false, false, false] rfl rfl (any_of HT_.out (by kernel_rfl)) (fun _ _ _ h => h) (Or.inl ⟨by rfl, ?_⟩) ?_ ?_
    rotate_left
    ·
     intro w'
     go_simp
     with_reducible rfl
    rotate_left
    ·
     simp only [Act.put, sI_, s0_, s1_, i64_w, i32_w]
     rfl
    refine pure_ (i := 4) (N := some 22) (v := ?_) (a' := ?_) #[true, false, true, false, true, false, false, false, false] rfl rfl (any_of HT_.out (by kernel_rfl)) (fun _ _ _ h => h) (Or.inl ⟨by rfl, ?_⟩) ?_ ?_
    rotate_left
    ·
     intro w'
     go_simp
     with_reducible rfl
    rotate_left
    ·
     simp only [Act.put, sI_, s0_, s1_, i64_w, i32_w]
     rfl
    refine take_ (i := 1) (N := some 19) (v := ?_) (a' := ?_) #[true, true, true, false, true, false, false, false, false] rfl rfl (take_ofW HT_.out HW_.out (by kernel_rfl)) (fun _ _ _ h => h) (Or.inl ⟨by rfl, ?_⟩) hHeld ?_ ?_
    rotate_left
    ·
     rintro w' ⟨s0, s1, s2, s3⟩
     go_simp
     with_reducible rfl
    rotate_left
    ·
     simp only [Act.put, sI_, s0_, s1_, i64_w, i32_w]
     rfl
    refine take_ (i := 3) (N := some 21) (v := ?_) (a' := ?_) #[true, true, true, true, true, false, false, false, false] rfl rfl (take_ofW HT_.out HW_.out (by kernel_rfl)) (fun _ _ _ h => h) (Or.inl ⟨by rfl, ?_⟩) hHeld ?_ ?_
    rotate_left
    ·
     rintro w' ⟨s0, s1, s2, s3⟩
     go_simp
     with_reducible rfl
    rotate_left
    ·
     simp only [Act.put, sI_, s0_, s1_, i64_w, i32_w]
     rfl
    refine take_ (i := 5) (N := some 23) (v := ?_) (a' := ?_) #[true, true, true, true, true, true, false, false, false] rfl rfl (take_ofW HT_.out HW_.out (by kernel_rfl)) (fun _ _ _ h => h) (Or.inl ⟨by rfl, ?_⟩) hHeld ?_ ?_
    rotate_left
    ·
     rintro w' ⟨s0, s1, s2, s3⟩
     go_simp
     with_reducible rfl
    rotate_left
    ·
     simp only [Act.put, sI_, s0_, s1_, i64_w, i32_w]
     rfl
    refine one_ (i := 6) (N := some 24) #[true, true, true, true, true, true, true, false, false] rfl rfl (one_of HT_.out (by kernel_rfl)) (by decide) (fun K hK => ?_)
    refine goes_ Try.func53 (by kernel_rfl) rfl #[.slice A0_1 l0_1.length c0_1, .slice A1_1 l1_1.length c1_1] (by rfl) rfl rfl (by (try simp only [List.map_toArray, List.map_cons, List.map_nil]); rfl) ?_
    with_reducible refine (zelligeref03_Add.calls k _ _ l0_1 _ _ l1_1 t549 _ ?side1 ?side2 ?side3 ?side4 A24.out).mono ?_
    (case side1 => exact (Kd.V_reads' HO0_1.out).2.2)
    (case side2 => exact (Kd.V_reads' HO0_1.out).2.1)
    (case side3 => exact (Kd.V_reads' HO1_1.out).2.2)
    (case side4 => exact (Kd.V_reads' HO1_1.out).2.1)
    rintro e w34 ⟨v550, rfl, ho0, hb⟩
    refine ⟨_, rfl, ?_⟩
    replace HO0_1 := am (Kd.V_elder' HO0_1.out (Kd.R_base ho0) hb)
    replace HO1_1 := am (Kd.V_elder' HO1_1.out (Kd.R_base ho0) hb)
    have HO551 := am (Kd.R_lower (Kd.R_newM (M := fun k_ => (w.heap.size ≤ k_)) ho0 (below_size HB.out) (fun k_ h_ => h_)) (below_size HB.out))
    replace BK546 := am (blk_below BK546.out hb)
    replace BK547 := am (blk_below BK547.out hb)
    replace BK548 := am (blk_below BK548.out hb)
    replace HB := am (below_step HB.out hb)
    try clear hb
    try clear ho0
    obtain ⟨Ao35, co35, eo35⟩ := Kd.R_slice HO551.out
    (subst eo35)
    refine hK.out _ _ ⟨(blk_cell BK546.out 0).trans rfl, (blk_cell BK546.out 1).trans rfl, (blk_cell BK547.out 0).trans rfl, (blk_cell BK547.out 1).trans rfl⟩ (fun hHeld => ?_)
    clear hK K
    refine norm_ (a' := ?_) ?_ ?_
    rotate_left
    ·
     show Act.put _ (some 24) _ = _
     simp only [Act.put, sI_, s0_, s1_, i64_w, i32_w]
     rfl
    refine pure_ (i := 7) (N := some 25) (v := ?_) (a' := ?_) #[true, true, true, true, true, true, true, true, false] rfl rfl (any_of HT_.out (by kernel_rfl)) (fun _ _ _ h => h) (Or.inl ⟨by rfl, ?_⟩) ?_ ?_
    rotate_left
    ·
     intro w'
     go_simp
     with_reducible rfl
    rotate_left
    ·
     simp only [Act.put, sI_, s0_, s1_, i64_w, i32_w]
     rfl
    refine one_ (i := 8) (N := none) #[true, true, true, true, true, true, true, true, true] rfl rfl (one_of HT_.out (by kernel_rfl)) (by decide) (fun K hK => ?_)
    have hs36 : w34.cell? ⟨gb548, 0, none⟩ = some (.int .i64 0) := (blk_cell BK548.out 0).trans rfl
    have hfs36 := blk_frozen BK548.out 0
    have hns36_0 := NB546_548.out
    have hns36_1 := NB547_548.out
    have hms36_0 := NB548_546.out
    have hms36_1 := NB548_547.out
    have hs37 : w34.cell? ⟨gb548, 1, none⟩ = some (.slice none 0 0) := (blk_cell BK548.out 1).trans rfl
    have hfs37 := blk_frozen BK548.out 1
    have hns37_0 := NB546_548.out
    have hns37_1 := NB547_548.out
    have hms37_0 := NB548_546.out
    have hms37_1 := NB548_547.out
    refine skip_ (w1 := ?_) (by rfl) rfl ?_ ?_
    rotate_left
    ·
     go_simp
     rfl
    refine hK.out _ _ ⟨((cell_far (p := ⟨gb548, _, none⟩) NB546_548.out _).trans (((cell_far (p := ⟨gb548, _, none⟩) NB546_548.out _).trans (hHeld.1)))), ((cell_far (p := ⟨gb548, _, none⟩) NB546_548.out _).trans (((cell_far (p := ⟨gb548, _, none⟩) NB546_548.out _).trans (hHeld.2.1)))), ((cell_far (p := ⟨gb548, _, none⟩) NB547_548.out _).trans (((cell_far (p := ⟨gb548, _, none⟩) NB547_548.out _).trans (hHeld.2.2.1)))), ((cell_far (p := ⟨gb548, _, none⟩) NB547_548.out _).trans (((cell_far (p := ⟨gb548, _, none⟩) NB547_548.out _).trans (hHeld.2.2.2))))⟩ (fun hHeld => ?_)
    clear hK K
    refine done_ (done_of HT_.out (by kernel_rfl)) ?_
    try go_wp2
    refine bodyPost_ret (results_cell_row rfl _ _ gb548 33 #[.int .i64 a0_0, .slice Ao35 t549.length co35] (0, 0) _ rfl (by refine blk_put (cs := #[.int .i64 a0_0, .slice none 0 0]) ?_ 1 _ rfl; refine blk_put (cs := #[.int .i64 0, .slice none 0 0]) ?_ 0 _ rfl; exact BK548.out) Try.underlying33 rfl (by kernel_rfl)) rfl ?_
    exact ⟨_, by rfl, Kd.V_mono (Kd.R_V (by exact Kd.R_mono (Kd.R_far (p := ⟨gb548, 1, none⟩) (Kd.R_far (p := ⟨gb548, 0, none⟩) (Kd.R_types HO551.out BK548.out (by decide)) (fun _ hk => hk.2) (.int .i64 a0_0)) (fun _ hk => hk.2) (.slice Ao35 t549.length co35)) (fun _ hk => hk.1.1))) (fun k_ hk => by exact (.inr (hk))), by repeat ((with_reducible first | exact HB.out | refine below_set ?_ GE548.out))⟩
   ·
    rw [if_neg c23] at H
    have c23b0 : (a0_0 == a1_0) = false := beq_eq_false_iff_ne.mpr c23
    have c23b1 : (a0_0 != a1_0) = true := bne_iff_ne.mpr c23
    obtain ⟨t552, A38, H⟩ := bindE H
    by_cases c39 : t552 ≥ 0
    ·
     rw [if_pos c39] at H
     have c39b0 : decide (0 ≤ t552) = true := decide_eq_true c39
     clear c39
     obtain ⟨t553, A40, H⟩ := bindE H
     obtain ⟨⟨t556, t557⟩, A41, H⟩ := bindE H
     replace H : (some (t556, t557)) = some (r1, r2) := H
     simp only [Option.some.injEq, Prod.mk.injEq] at H
     obtain ⟨rfl, rfl⟩ := H
     go_enter Try.func20, Try.ntmps20
     try go_wp2_with (first | ((with_reducible refine gate_dst (N := 2) rfl ?_); refine box_event ?hg (N := 2) ?hd (cs := #[.int .i64 a0_0, .slice A0_1 l0_1.length c0_1]) (t := 33) ?hr ?_; (case hd => rfl); (case hg => rfl); (case hr => (go_simp; done)); intro gb546 hg w42 hbox hb; replace HO0_1 := am (Kd.V_below (Kd.V_elderB HO0_1.out gb546 (Nat.le_of_eq hg.symm)) hb); replace HO1_1 := am (Kd.V_below (Kd.V_elderB HO1_1.out gb546 (Nat.le_of_eq hg.symm)) hb); have BK546 := am hbox; have GW546 := am (gel hg HB.out); have GE546 := am (gel hg HB.out); replace HB := am (below_step HB.out hb); clear hb hbox hg) | ((with_reducible refine gate_dst (N := 3) rfl ?_); refine box_event ?hg (N := 3) ?hd (cs := #[.int .i64 a1_0, .slice A1_1 l1_1.length c1_1]) (t := 33) ?hr ?_; (case hd => rfl); (case hg => rfl); (case hr => (go_simp; done)); intro gb547 hg w43 hbox hb; replace HO0_1 := am (Kd.V_below (Kd.V_elderB HO0_1.out gb547 (Nat.le_of_eq hg.symm)) hb); replace HO1_1 := am (Kd.V_below (Kd.V_elderB HO1_1.out gb547 (Nat.le_of_eq hg.symm)) hb); have BK547 := am hbox; have GW547 := am (gel hg HB.out); have GE547 := am (gel hg HB.out); replace HB := am (below_step HB.out hb); have NB546_547 := am (nel hg BK546.out); have NB547_546 := am (ner hg BK546.out); replace BK546 := am (blk_below BK546.out hb); clear hb hbox hg) | ((with_reducible refine gate_dst (N := 4) rfl ?_); refine box_event ?hg (N := 4) ?hd (cs := #[.int .i64 0, .slice none 0 0]) (t := 33) ?hr ?_; (case hd => rfl); (case hg => rfl); (case hr => (go_simp; done)); intro gb548 hg w44 hbox hb; replace HO0_1 := am (Kd.V_below (Kd.V_elderB HO0_1.out gb548 (Nat.le_of_eq hg.symm)) hb); replace HO1_1 := am (Kd.V_below (Kd.V_elderB HO1_1.out gb548 (Nat.le_of_eq hg.symm)) hb); have BK548 := am hbox; have GW548 := am (gel hg HB.out); have GE548 := am (gel hg HB.out); replace HB := am (below_step HB.out hb); have NB546_548 := am (nel hg BK546.out); have NB548_546 := am (ner hg BK546.out); replace BK546 := am (blk_below BK546.out hb); have NB547_548 := am (nel hg BK547.out); have NB548_547 := am (ner hg BK547.out); replace BK547 := am (blk_below BK547.out hb); clear hb hbox hg; have hnb45 := NB546_547.out; have hnc45 := NB547_546.out; have hnb46 := NB546_548.out; have hnc46 := NB548_546.out; have hcz47_0 : w44.cell? ⟨gb546, 0, none⟩ = some (.int .i64 a0_0) := (blk_cell BK546.out 0).trans rfl; have hcz47_1 : w44.cell? ⟨gb546, 1, none⟩ = some (.slice A0_1 l0_1.length c0_1) := (blk_cell BK546.out 1).trans rfl; have hfz47_0 := blk_frozen BK546.out 0; have hfz47_1 := blk_frozen BK546.out 1; have hnb48 := NB547_548.out; have hnc48 := NB548_547.out; have hcz49_0 : w44.cell? ⟨gb547, 0, none⟩ = some (.int .i64 a1_0) := (blk_cell BK547.out 0).trans rfl; have hcz49_1 : w44.cell? ⟨gb547, 1, none⟩ = some (.slice A1_1 l1_1.length c1_1) := (blk_cell BK547.out 1).trans rfl; have hfz49_0 := blk_frozen BK547.out 0; have hfz49_1 := blk_frozen BK547.out 1) | ((with_reducible refine gate_callee (f := 18) rfl ?_); refine goesL_ (some 30) rfl rfl Try.func18 (by kernel_rfl) rfl #[.slice A0_1 l0_1.length c0_1, .slice A1_1 l1_1.length c1_1] rfl (by (try simp only [List.map_toArray, List.map_cons, List.map_nil]); rfl) ?_; (with_reducible refine (zelligeref03_Cmp.calls k _ _ l0_1 _ _ l1_1 t552 _ ?side1 ?side2 ?side3 ?side4 A38.out).mono ?_); (case side1 => exact (Kd.V_reads' HO0_1.out).2.2); (case side2 => exact (Kd.V_reads' HO0_1.out).2.1); (case side3 => exact (Kd.V_reads' HO1_1.out).2.2); (case side4 => exact (Kd.V_reads' HO1_1.out).2.1); rintro e w' ⟨rfl, ⟨nd, rfl⟩⟩; refine ⟨_, rfl, ?_⟩; (try (rw [drewN_self w44]; generalize hq_ : World.drewN w44 _ = w44; have n0_ : Aside0 (Kd.V (Kd.int .i64) 3 w44 w.heap.size (fun k_ => ((P0_1_ k_ ∨ P1_1_ k_) ∨ w.heap.size ≤ k_) ∧ k_ ≠ gb546 ∧ k_ ≠ gb547 ∧ k_ ≠ gb548) (.slice A0_1 l0_1.length c0_1) l0_1) := ⟨by rw [← hq_]; exact (by (with_reducible repeat (apply Kd.V_drewN)); exact Kd.V_mono HO0_1.out (fun _ hk => ⟨hk.1.1.1, ⟨hk.1.1.2, ⟨hk.1.2, hk.2⟩⟩⟩))⟩; have n1_ : Aside0 (Kd.V (Kd.int .i64) 3 w44 w.heap.size (fun k_ => ((P0_1_ k_ ∨ P1_1_ k_) ∨ w.heap.size ≤ k_) ∧ k_ ≠ gb546 ∧ k_ ≠ gb547 ∧ k_ ≠ gb548) (.slice A1_1 l1_1.length c1_1) l1_1) := ⟨by rw [← hq_]; exact (by (with_reducible repeat (apply Kd.V_drewN)); exact Kd.V_mono HO1_1.out (fun _ hk => ⟨hk.1.1.1, ⟨hk.1.1.2, ⟨hk.1.2, hk.2⟩⟩⟩))⟩; have n2_ : Aside0 (w44.heap[gb546]? = some (.cells #[.int .i64 a0_0, .slice A0_1 l0_1.length c0_1] 33 (0, 0))) := ⟨by rw [← hq_]; exact (by (with_reducible repeat (refine blk_drewN ?_ _)); exact BK546.out)⟩; have n3_ : Aside0 (w44.heap[gb547]? = some (.cells #[.int .i64 a1_0, .slice A1_1 l1_1.length c1_1] 33 (0, 0))) := ⟨by rw [← hq_]; exact (by (with_reducible repeat (refine blk_drewN ?_ _)); exact BK547.out)⟩; have n4_ : Aside0 (w44.heap[gb548]? = some (.cells #[.int .i64 0, .slice none 0 0] 33 (0, 0))) := ⟨by rw [← hq_]; exact (by (with_reducible repeat (refine blk_drewN ?_ _)); exact BK548.out)⟩; have n5_ : Aside0 (Below w.heap.size w w44) := ⟨by rw [← hq_]; exact (by repeat ((with_reducible first | exact HB.out | apply pw_below_drewN)))⟩; clear HO0_1 HO1_1 BK546 BK547 BK548 HB hq_; have HO0_1 := n0_; have HO1_1 := n1_; have BK546 := n2_; have BK547 := n3_; have BK548 := n4_; have HB := n5_; clear n0_ n1_ n2_ n3_ n4_ n5_))))
     replace HO0_1 := am (Kd.V_drew HO0_1.out)
     replace HO1_1 := am (Kd.V_drew HO1_1.out)
     replace BK546 := am (blk_drew BK546.out)
     replace BK547 := am (blk_drew BK547.out)
     replace BK548 := am (blk_drew BK548.out)
     replace HB := am (below_drew1 HB.out)
     refine start_ (n := 9) (S := fun w' => w'.cell? ⟨gb546, 0, none⟩ = some (.int .i64 a0_0) ∧ w'.cell? ⟨gb546, 1, none⟩ = some (.slice A0_1 l0_1.length c0_1) ∧ w'.cell? ⟨gb547, 0, none⟩ = some (.int .i64 a1_0) ∧ w'.cell? ⟨gb547, 1, none⟩ = some (.slice A1_1 l1_1.length c1_1)) (ds := []) #[false, false, false, false, false, false, false, false, false] (by kernel_rfl) rfl rfl ⟨(blk_cell BK546.out 0).trans rfl, (blk_cell BK546.out 1).trans rfl, (blk_cell BK547.out 0).trans rfl, (blk_cell BK547.out 1).trans rfl⟩ (fun hHeld => ?_); refine with_tabW zelligeref04_Add.tab8 zelligeref04_Add.bits8 (fun HT_ HW_ => ?_)
     generalize w44.drew = w50 at HO0_1 HO1_1 BK546 BK547 BK548 HB hHeld ⊢
     refine pure_ (i := 0) (N := some 32) (v := ?_) (a' := ?_) #[true, false, false, false, false, false, false, false, false] rfl rfl (any_of HT_.out (by kernel_rfl)) (fun _ _ _ h => h) (Or.inl ⟨by rfl, ?_⟩) ?_ ?_
     rotate_left
     ·
      intro w'
      go_simp
      with_reducible rfl
     rotate_left
     ·
      simp only [Act.put, sI_, s0_, s1_, i64_w, i32_w]
      rfl
     refine pure_ (i := 2) (N := some 34) (v := ?_) (a' := ?_) #[true, false, true, false, false, false, false, false, false] rfl rfl (any_of HT_.out (by kernel_rfl)) (fun _ _ _ h => h) (Or.inl ⟨by rfl, ?_⟩) ?_ ?_
     rotate_left
     ·
      intro w'
      go_simp
      with_reducible rfl
     rotate_left
     ·
      simp only [Act.put, sI_, s0_, s1_, i64_w, i32_w]
      rfl
     refine pure_ (i := 4) (N := some 36) (v := ?_) (a' := ?_) #[true, false, true, false, true, false, false, false, false] rfl rfl (any_of HT_.out (by kernel_rfl)) (fun _ _ _ h => h) (Or.inl ⟨by rfl, ?_⟩) ?_ ?_
     rotate_left
     ·
      intro w'
      go_simp
      with_reducible rfl
     rotate_left
     ·
      simp only [Act.put, sI_, s0_, s1_, i64_w, i32_w]
      rfl
     refine take_ (i := 1) (N := some 33) (v := ?_) (a' := ?_) #[true, true, true, false, true, false, false, false, false] rfl rfl (take_ofW HT_.out HW_.out (by kernel_rfl)) (fun _ _ _ h => h) (Or.inl ⟨by rfl, ?_⟩) hHeld ?_ ?_
     rotate_left
     ·
      rintro w' ⟨s0, s1, s2, s3⟩
      go_simp
      with_reducible rfl
     rotate_left
     ·
      simp only [Act.put, sI_, s0_, s1_, i64_w, i32_w]
      rfl
     refine take_ (i := 3) (N := some 35) (v := ?_) (a' := ?_) #[true, true, true, true, true, false, false, false, false] rfl rfl (take_ofW HT_.out HW_.out (by kernel_rfl)) (fun _ _ _ h => h) (Or.inl ⟨by rfl, ?_⟩) hHeld ?_ ?_
     rotate_left
     ·
      rintro w' ⟨s0, s1, s2, s3⟩
      go_simp
      with_reducible rfl
     rotate_left
     ·
      simp only [Act.put, sI_, s0_, s1_, i64_w, i32_w]
      rfl
     refine take_ (i := 5) (N := some 37) (v := ?_) (a' := ?_) #[true, true, true, true, true, true, false, false, false] rfl rfl (take_ofW HT_.out HW_.out (by kernel_rfl)) (fun _ _ _ h => h) (Or.inl ⟨by rfl, ?_⟩) hHeld ?_ ?_
     rotate_left
     ·
      rintro w' ⟨s0, s1, s2, s3⟩
      go_simp
      with_reducible rfl
     rotate_left
     ·
      simp only [Act.put, sI_, s0_, s1_, i64_w, i32_w]
      rfl
     refine one_ (i := 6) (N := some 38) #[true, true, true, true, true, true, true, false, false] rfl rfl (one_of HT_.out (by kernel_rfl)) (by decide) (fun K hK => ?_)
     refine goes_ Try.func54 (by kernel_rfl) rfl #[.slice A0_1 l0_1.length c0_1, .slice A1_1 l1_1.length c1_1] (by rfl) rfl rfl (by (try simp only [List.map_toArray, List.map_cons, List.map_nil]); rfl) ?_
     with_reducible refine (zelligeref03_Sub.calls k _ _ l0_1 _ _ l1_1 t553 _ ?side1 ?side2 ?side3 ?side4 A40.out).mono ?_
     (case side1 => exact (Kd.V_reads' HO0_1.out).2.2)
     (case side2 => exact (Kd.V_reads' HO0_1.out).2.1)
     (case side3 => exact (Kd.V_reads' HO1_1.out).2.2)
     (case side4 => exact (Kd.V_reads' HO1_1.out).2.1)
     rintro e w51 ⟨v554, rfl, ho0, hb⟩
     refine ⟨_, rfl, ?_⟩
     replace HO0_1 := am (Kd.V_elder' HO0_1.out (Kd.R_base ho0) hb)
     replace HO1_1 := am (Kd.V_elder' HO1_1.out (Kd.R_base ho0) hb)
     have HO555 := am (Kd.R_lower (Kd.R_newM (M := fun k_ => (w.heap.size ≤ k_)) ho0 (below_size HB.out) (fun k_ h_ => h_)) (below_size HB.out))
     replace BK546 := am (blk_below BK546.out hb)
     replace BK547 := am (blk_below BK547.out hb)
     replace BK548 := am (blk_below BK548.out hb)
     replace HB := am (below_step HB.out hb)
     try clear hb
     try clear ho0
     obtain ⟨Ao52, co52, eo52⟩ := Kd.R_slice HO555.out
     (subst eo52)
     refine hK.out _ _ ⟨(blk_cell BK546.out 0).trans rfl, (blk_cell BK546.out 1).trans rfl, (blk_cell BK547.out 0).trans rfl, (blk_cell BK547.out 1).trans rfl⟩ (fun hHeld => ?_)
     clear hK K
     refine norm_ (a' := ?_) ?_ ?_
     rotate_left
     ·
      show Act.put _ (some 38) _ = _
      simp only [Act.put, sI_, s0_, s1_, i64_w, i32_w]
      rfl
     refine one_ (i := 7) (N := some 39) #[true, true, true, true, true, true, true, true, false] rfl rfl (one_of HT_.out (by kernel_rfl)) (by decide) (fun K hK => ?_)
     refine goes_ Try.func51 (by kernel_rfl) rfl #[.int .i64 a0_0, .slice Ao52 t553.length co52] (by rfl) rfl rfl (by (try simp only [List.map_toArray, List.map_cons, List.map_nil]); rfl) ?_
     with_reducible refine (zelligeref04_make1.calls a0_0 (fun k_ => some k_ = (.slice Ao52 t553.length co52 : Value).ownBlock) _ _ t553 t556 t557 _ ?side1 A41.out).mono ?_
     (case side1 => exact Kd.R_V (Kd.R_tight rfl (Kd.R_types (Kd.R_types (Kd.R_types (HO555.out) BK546.out (by decide)) BK547.out (by decide)) BK548.out (by decide))))
     rintro e w53 ⟨v558, rfl, ho0, hb⟩
     refine ⟨_, rfl, ?_⟩
     replace HO0_1 := am (Kd.V_below HO0_1.out hb)
     replace HO1_1 := am (Kd.V_below HO1_1.out hb)
     have HO559 := am (Kd.V_lower (Kd.V_mono (ok' := fun k_ => ((P0_1_ k_ ∨ P1_1_ k_) ∨ w.heap.size ≤ k_) ∧ k_ ≠ gb546 ∧ k_ ≠ gb547 ∧ k_ ≠ gb548) ho0 (fun k_ hk_ => ⟨Or.elim hk_ (fun hs_ => (.inr (((Kd.R_types (Kd.R_types (Kd.R_types (HO555.out) BK546.out (by decide)) BK547.out (by decide)) BK548.out (by decide)).1 k_ hs_.symm).1.1.1.1))) (fun hn_ => (.inr (Nat.le_trans (below_size HB.out) hn_))), Or.elim hk_ (fun hs_ => ((Kd.R_types (Kd.R_types (Kd.R_types (HO555.out) BK546.out (by decide)) BK547.out (by decide)) BK548.out (by decide)).1 k_ hs_.symm).1.1.2) (fun hn_ => (Kd.freshB BK546.out k_ hn_)), Or.elim hk_ (fun hs_ => ((Kd.R_types (Kd.R_types (Kd.R_types (HO555.out) BK546.out (by decide)) BK547.out (by decide)) BK548.out (by decide)).1 k_ hs_.symm).1.2) (fun hn_ => (Kd.freshB BK547.out k_ hn_)), Or.elim hk_ (fun hs_ => ((Kd.R_types (Kd.R_types (Kd.R_types (HO555.out) BK546.out (by decide)) BK547.out (by decide)) BK548.out (by decide)).1 k_ hs_.symm).2) (fun hn_ => (Kd.freshB BK548.out k_ hn_))⟩)) (below_size HB.out))
     replace HO555 := am (Kd.R_below HO555.out hb)
     replace BK546 := am (blk_below BK546.out hb)
     replace BK547 := am (blk_below BK547.out hb)
     replace BK548 := am (blk_below BK548.out hb)
     replace HB := am (below_step HB.out hb)
     try clear hb
     try clear ho0
     obtain ⟨Ao55, co55, eo55⟩ := Kd.V_slice HO559.out
     (subst eo55)
     refine hK.out _ _ ⟨(blk_cell BK546.out 0).trans rfl, (blk_cell BK546.out 1).trans rfl, (blk_cell BK547.out 0).trans rfl, (blk_cell BK547.out 1).trans rfl⟩ (fun hHeld => ?_)
     clear hK K
     refine norm_ (a' := ?_) ?_ ?_
     rotate_left
     ·
      show Act.put _ (some 39) _ = _
      simp only [Act.put, sI_, s0_, s1_, i64_w, i32_w]
      rfl
     refine one_ (i := 8) (N := none) #[true, true, true, true, true, true, true, true, true] rfl rfl (one_of HT_.out (by kernel_rfl)) (by decide) (fun K hK => ?_)
     have hs54 : w53.cell? ⟨gb548, 0, none⟩ = some (.int .i64 0) := (blk_cell BK548.out 0).trans rfl
     have hfs54 := blk_frozen BK548.out 0
     have hns54_0 := NB546_548.out
     have hns54_1 := NB547_548.out
     have hms54_0 := NB548_546.out
     have hms54_1 := NB548_547.out
     have hs56 : w53.cell? ⟨gb548, 1, none⟩ = some (.slice none 0 0) := (blk_cell BK548.out 1).trans rfl
     have hfs56 := blk_frozen BK548.out 1
     have hns56_0 := NB546_548.out
     have hns56_1 := NB547_548.out
     have hms56_0 := NB548_546.out
     have hms56_1 := NB548_547.out
     refine skip_ (w1 := ?_) (by rfl) rfl ?_ ?_
     rotate_left
     ·
      go_simp
      rfl
     refine hK.out _ _ ⟨((cell_far (p := ⟨gb548, _, none⟩) NB546_548.out _).trans (((cell_far (p := ⟨gb548, _, none⟩) NB546_548.out _).trans (hHeld.1)))), ((cell_far (p := ⟨gb548, _, none⟩) NB546_548.out _).trans (((cell_far (p := ⟨gb548, _, none⟩) NB546_548.out _).trans (hHeld.2.1)))), ((cell_far (p := ⟨gb548, _, none⟩) NB547_548.out _).trans (((cell_far (p := ⟨gb548, _, none⟩) NB547_548.out _).trans (hHeld.2.2.1)))), ((cell_far (p := ⟨gb548, _, none⟩) NB547_548.out _).trans (((cell_far (p := ⟨gb548, _, none⟩) NB547_548.out _).trans (hHeld.2.2.2))))⟩ (fun hHeld => ?_)
     clear hK K
     refine done_ (done_of HT_.out (by kernel_rfl)) ?_
     try go_wp2
     refine bodyPost_ret (results_cell_row rfl _ _ gb548 33 #[.int .i64 t556, .slice Ao55 t557.length co55] (0, 0) _ rfl (by refine blk_put (cs := #[.int .i64 t556, .slice none 0 0]) ?_ 1 _ rfl; refine blk_put (cs := #[.int .i64 0, .slice none 0 0]) ?_ 0 _ rfl; exact BK548.out) Try.underlying33 rfl (by kernel_rfl)) rfl ?_
     exact ⟨_, by rfl, by exact Kd.V_mono (Kd.V_far (p := ⟨gb548, 1, none⟩) (Kd.V_far (p := ⟨gb548, 0, none⟩) (Kd.V_mono HO559.out (fun k_ hk => (⟨hk, hk.2.2.2⟩ : _ ∧ k_ ≠ gb548))) (fun _ hk => hk.2) (.int .i64 t556)) (fun _ hk => hk.2) (.slice Ao55 t557.length co55)) (fun _ hk => hk.1.1), by repeat ((with_reducible first | exact HB.out | refine below_set ?_ GE548.out))⟩
    ·
     rw [if_neg c39] at H
     have c39b0 : decide (0 ≤ t552) = false := decide_eq_false c39
     clear c39
     obtain ⟨t560, A57, H⟩ := bindE H
     obtain ⟨⟨t563, t564⟩, A58, H⟩ := bindE H
     replace H : (some (t563, t564)) = some (r1, r2) := H
     simp only [Option.some.injEq, Prod.mk.injEq] at H
     obtain ⟨rfl, rfl⟩ := H
     go_enter Try.func20, Try.ntmps20
     try go_wp2_with (first | ((with_reducible refine gate_dst (N := 2) rfl ?_); refine box_event ?hg (N := 2) ?hd (cs := #[.int .i64 a0_0, .slice A0_1 l0_1.length c0_1]) (t := 33) ?hr ?_; (case hd => rfl); (case hg => rfl); (case hr => (go_simp; done)); intro gb546 hg w59 hbox hb; replace HO0_1 := am (Kd.V_below (Kd.V_elderB HO0_1.out gb546 (Nat.le_of_eq hg.symm)) hb); replace HO1_1 := am (Kd.V_below (Kd.V_elderB HO1_1.out gb546 (Nat.le_of_eq hg.symm)) hb); have BK546 := am hbox; have GW546 := am (gel hg HB.out); have GE546 := am (gel hg HB.out); replace HB := am (below_step HB.out hb); clear hb hbox hg) | ((with_reducible refine gate_dst (N := 3) rfl ?_); refine box_event ?hg (N := 3) ?hd (cs := #[.int .i64 a1_0, .slice A1_1 l1_1.length c1_1]) (t := 33) ?hr ?_; (case hd => rfl); (case hg => rfl); (case hr => (go_simp; done)); intro gb547 hg w60 hbox hb; replace HO0_1 := am (Kd.V_below (Kd.V_elderB HO0_1.out gb547 (Nat.le_of_eq hg.symm)) hb); replace HO1_1 := am (Kd.V_below (Kd.V_elderB HO1_1.out gb547 (Nat.le_of_eq hg.symm)) hb); have BK547 := am hbox; have GW547 := am (gel hg HB.out); have GE547 := am (gel hg HB.out); replace HB := am (below_step HB.out hb); have NB546_547 := am (nel hg BK546.out); have NB547_546 := am (ner hg BK546.out); replace BK546 := am (blk_below BK546.out hb); clear hb hbox hg) | ((with_reducible refine gate_dst (N := 4) rfl ?_); refine box_event ?hg (N := 4) ?hd (cs := #[.int .i64 0, .slice none 0 0]) (t := 33) ?hr ?_; (case hd => rfl); (case hg => rfl); (case hr => (go_simp; done)); intro gb548 hg w61 hbox hb; replace HO0_1 := am (Kd.V_below (Kd.V_elderB HO0_1.out gb548 (Nat.le_of_eq hg.symm)) hb); replace HO1_1 := am (Kd.V_below (Kd.V_elderB HO1_1.out gb548 (Nat.le_of_eq hg.symm)) hb); have BK548 := am hbox; have GW548 := am (gel hg HB.out); have GE548 := am (gel hg HB.out); replace HB := am (below_step HB.out hb); have NB546_548 := am (nel hg BK546.out); have NB548_546 := am (ner hg BK546.out); replace BK546 := am (blk_below BK546.out hb); have NB547_548 := am (nel hg BK547.out); have NB548_547 := am (ner hg BK547.out); replace BK547 := am (blk_below BK547.out hb); clear hb hbox hg; have hnb62 := NB546_547.out; have hnc62 := NB547_546.out; have hnb63 := NB546_548.out; have hnc63 := NB548_546.out; have hcz64_0 : w61.cell? ⟨gb546, 0, none⟩ = some (.int .i64 a0_0) := (blk_cell BK546.out 0).trans rfl; have hcz64_1 : w61.cell? ⟨gb546, 1, none⟩ = some (.slice A0_1 l0_1.length c0_1) := (blk_cell BK546.out 1).trans rfl; have hfz64_0 := blk_frozen BK546.out 0; have hfz64_1 := blk_frozen BK546.out 1; have hnb65 := NB547_548.out; have hnc65 := NB548_547.out; have hcz66_0 : w61.cell? ⟨gb547, 0, none⟩ = some (.int .i64 a1_0) := (blk_cell BK547.out 0).trans rfl; have hcz66_1 : w61.cell? ⟨gb547, 1, none⟩ = some (.slice A1_1 l1_1.length c1_1) := (blk_cell BK547.out 1).trans rfl; have hfz66_0 := blk_frozen BK547.out 0; have hfz66_1 := blk_frozen BK547.out 1) | ((with_reducible refine gate_callee (f := 18) rfl ?_); refine goesL_ (some 30) rfl rfl Try.func18 (by kernel_rfl) rfl #[.slice A0_1 l0_1.length c0_1, .slice A1_1 l1_1.length c1_1] rfl (by (try simp only [List.map_toArray, List.map_cons, List.map_nil]); rfl) ?_; (with_reducible refine (zelligeref03_Cmp.calls k _ _ l0_1 _ _ l1_1 t552 _ ?side1 ?side2 ?side3 ?side4 A38.out).mono ?_); (case side1 => exact (Kd.V_reads' HO0_1.out).2.2); (case side2 => exact (Kd.V_reads' HO0_1.out).2.1); (case side3 => exact (Kd.V_reads' HO1_1.out).2.2); (case side4 => exact (Kd.V_reads' HO1_1.out).2.1); rintro e w' ⟨rfl, ⟨nd, rfl⟩⟩; refine ⟨_, rfl, ?_⟩; (try (rw [drewN_self w61]; generalize hq_ : World.drewN w61 _ = w61; have n0_ : Aside0 (Kd.V (Kd.int .i64) 3 w61 w.heap.size (fun k_ => ((P0_1_ k_ ∨ P1_1_ k_) ∨ w.heap.size ≤ k_) ∧ k_ ≠ gb546 ∧ k_ ≠ gb547 ∧ k_ ≠ gb548) (.slice A0_1 l0_1.length c0_1) l0_1) := ⟨by rw [← hq_]; exact (by (with_reducible repeat (apply Kd.V_drewN)); exact Kd.V_mono HO0_1.out (fun _ hk => ⟨hk.1.1.1, ⟨hk.1.1.2, ⟨hk.1.2, hk.2⟩⟩⟩))⟩; have n1_ : Aside0 (Kd.V (Kd.int .i64) 3 w61 w.heap.size (fun k_ => ((P0_1_ k_ ∨ P1_1_ k_) ∨ w.heap.size ≤ k_) ∧ k_ ≠ gb546 ∧ k_ ≠ gb547 ∧ k_ ≠ gb548) (.slice A1_1 l1_1.length c1_1) l1_1) := ⟨by rw [← hq_]; exact (by (with_reducible repeat (apply Kd.V_drewN)); exact Kd.V_mono HO1_1.out (fun _ hk => ⟨hk.1.1.1, ⟨hk.1.1.2, ⟨hk.1.2, hk.2⟩⟩⟩))⟩; have n2_ : Aside0 (w61.heap[gb546]? = some (.cells #[.int .i64 a0_0, .slice A0_1 l0_1.length c0_1] 33 (0, 0))) := ⟨by rw [← hq_]; exact (by (with_reducible repeat (refine blk_drewN ?_ _)); exact BK546.out)⟩; have n3_ : Aside0 (w61.heap[gb547]? = some (.cells #[.int .i64 a1_0, .slice A1_1 l1_1.length c1_1] 33 (0, 0))) := ⟨by rw [← hq_]; exact (by (with_reducible repeat (refine blk_drewN ?_ _)); exact BK547.out)⟩; have n4_ : Aside0 (w61.heap[gb548]? = some (.cells #[.int .i64 0, .slice none 0 0] 33 (0, 0))) := ⟨by rw [← hq_]; exact (by (with_reducible repeat (refine blk_drewN ?_ _)); exact BK548.out)⟩; have n5_ : Aside0 (Below w.heap.size w w61) := ⟨by rw [← hq_]; exact (by repeat ((with_reducible first | exact HB.out | apply pw_below_drewN)))⟩; clear HO0_1 HO1_1 BK546 BK547 BK548 HB hq_; have HO0_1 := n0_; have HO1_1 := n1_; have BK546 := n2_; have BK547 := n3_; have BK548 := n4_; have HB := n5_; clear n0_ n1_ n2_ n3_ n4_ n5_))))
     replace HO0_1 := am (Kd.V_drew HO0_1.out)
     replace HO1_1 := am (Kd.V_drew HO1_1.out)
     replace BK546 := am (blk_drew BK546.out)
     replace BK547 := am (blk_drew BK547.out)
     replace BK548 := am (blk_drew BK548.out)
     replace HB := am (below_drew1 HB.out)
     refine start_ (n := 9) (S := fun w' => w'.cell? ⟨gb547, 0, none⟩ = some (.int .i64 a1_0) ∧ w'.cell? ⟨gb547, 1, none⟩ = some (.slice A1_1 l1_1.length c1_1) ∧ w'.cell? ⟨gb546, 0, none⟩ = some (.int .i64 a0_0) ∧ w'.cell? ⟨gb546, 1, none⟩ = some (.slice A0_1 l0_1.length c0_1)) (ds := []) #[false, false, false, false, false, false, false, false, false] (by kernel_rfl) rfl rfl ⟨(blk_cell BK547.out 0).trans rfl, (blk_cell BK547.out 1).trans rfl, (blk_cell BK546.out 0).trans rfl, (blk_cell BK546.out 1).trans rfl⟩ (fun hHeld => ?_); refine with_tabW zelligeref04_Add.tab9 zelligeref04_Add.bits9 (fun HT_ HW_ => ?_)
     generalize w61.drew = w67 at HO0_1 HO1_1 BK546 BK547 BK548 HB hHeld ⊢
     refine pure_ (i := 0) (N := some 40) (v := ?_) (a' := ?_) #[true, false, false, false, false, false, false, false, false] rfl rfl (any_of HT_.out (by kernel_rfl)) (fun _ _ _ h => h) (Or.inl ⟨by rfl, ?_⟩) ?_ ?_
     rotate_left
     ·
      intro w'
      go_simp
      with_reducible rfl
     rotate_left
     ·
      simp only [Act.put, sI_, s0_, s1_, i64_w, i32_w]
      rfl
     refine pure_ (i := 2) (N := some 42) (v := ?_) (a' := ?_) #[true, false, true, false, false, false, false, false, false] rfl rfl (any_of HT_.out (by kernel_rfl)) (fun _ _ _ h => h) (Or.inl ⟨by rfl, ?_⟩) ?_ ?_
     rotate_left
     ·
      intro w'
      go_simp
      with_reducible rfl
     rotate_left
     ·
      simp only [Act.put, sI_, s0_, s1_, i64_w, i32_w]
      rfl
     refine pure_ (i := 4) (N := some 44) (v := ?_) (a' := ?_) #[true, false, true, false, true, false, false, false, false] rfl rfl (any_of HT_.out (by kernel_rfl)) (fun _ _ _ h => h) (Or.inl ⟨by rfl, ?_⟩) ?_ ?_
     rotate_left
     ·
      intro w'
      go_simp
      with_reducible rfl
     rotate_left
     ·
      simp only [Act.put, sI_, s0_, s1_, i64_w, i32_w]
      rfl
     refine take_ (i := 1) (N := some 41) (v := ?_) (a' := ?_) #[true, true, true, false, true, false, false, false, false] rfl rfl (take_ofW HT_.out HW_.out (by kernel_rfl)) (fun _ _ _ h => h) (Or.inl ⟨by rfl, ?_⟩) hHeld ?_ ?_
     rotate_left
     ·
      rintro w' ⟨s0, s1, s2, s3⟩
      go_simp
      with_reducible rfl
     rotate_left
     ·
      simp only [Act.put, sI_, s0_, s1_, i64_w, i32_w]
      rfl
     refine take_ (i := 3) (N := some 43) (v := ?_) (a' := ?_) #[true, true, true, true, true, false, false, false, false] rfl rfl (take_ofW HT_.out HW_.out (by kernel_rfl)) (fun _ _ _ h => h) (Or.inl ⟨by rfl, ?_⟩) hHeld ?_ ?_
     rotate_left
     ·
      rintro w' ⟨s0, s1, s2, s3⟩
      go_simp
      with_reducible rfl
     rotate_left
     ·
      simp only [Act.put, sI_, s0_, s1_, i64_w, i32_w]
      rfl
     refine take_ (i := 5) (N := some 45) (v := ?_) (a' := ?_) #[true, true, true, true, true, true, false, false, false] rfl rfl (take_ofW HT_.out HW_.out (by kernel_rfl)) (fun _ _ _ h => h) (Or.inl ⟨by rfl, ?_⟩) hHeld ?_ ?_
     rotate_left
     ·
      rintro w' ⟨s0, s1, s2, s3⟩
      go_simp
      with_reducible rfl
     rotate_left
     ·
      simp only [Act.put, sI_, s0_, s1_, i64_w, i32_w]
      rfl
     refine one_ (i := 6) (N := some 46) #[true, true, true, true, true, true, true, false, false] rfl rfl (one_of HT_.out (by kernel_rfl)) (by decide) (fun K hK => ?_)
     refine goes_ Try.func54 (by kernel_rfl) rfl #[.slice A1_1 l1_1.length c1_1, .slice A0_1 l0_1.length c0_1] (by rfl) rfl rfl (by (try simp only [List.map_toArray, List.map_cons, List.map_nil]); rfl) ?_
     with_reducible refine (zelligeref03_Sub.calls k _ _ l1_1 _ _ l0_1 t560 _ ?side1 ?side2 ?side3 ?side4 A57.out).mono ?_
     (case side1 => exact (Kd.V_reads' HO1_1.out).2.2)
     (case side2 => exact (Kd.V_reads' HO1_1.out).2.1)
     (case side3 => exact (Kd.V_reads' HO0_1.out).2.2)
     (case side4 => exact (Kd.V_reads' HO0_1.out).2.1)
     rintro e w68 ⟨v561, rfl, ho0, hb⟩
     refine ⟨_, rfl, ?_⟩
     replace HO0_1 := am (Kd.V_elder' HO0_1.out (Kd.R_base ho0) hb)
     replace HO1_1 := am (Kd.V_elder' HO1_1.out (Kd.R_base ho0) hb)
     have HO562 := am (Kd.R_lower (Kd.R_newM (M := fun k_ => (w.heap.size ≤ k_)) ho0 (below_size HB.out) (fun k_ h_ => h_)) (below_size HB.out))
     replace BK546 := am (blk_below BK546.out hb)
     replace BK547 := am (blk_below BK547.out hb)
     replace BK548 := am (blk_below BK548.out hb)
     replace HB := am (below_step HB.out hb)
     try clear hb
     try clear ho0
     obtain ⟨Ao69, co69, eo69⟩ := Kd.R_slice HO562.out
     (subst eo69)
     refine hK.out _ _ ⟨(blk_cell BK547.out 0).trans rfl, (blk_cell BK547.out 1).trans rfl, (blk_cell BK546.out 0).trans rfl, (blk_cell BK546.out 1).trans rfl⟩ (fun hHeld => ?_)
     clear hK K
     refine norm_ (a' := ?_) ?_ ?_
     rotate_left
     ·
      show Act.put _ (some 46) _ = _
      simp only [Act.put, sI_, s0_, s1_, i64_w, i32_w]
      rfl
     refine one_ (i := 7) (N := some 47) #[true, true, true, true, true, true, true, true, false] rfl rfl (one_of HT_.out (by kernel_rfl)) (by decide) (fun K hK => ?_)
     refine goes_ Try.func51 (by kernel_rfl) rfl #[.int .i64 a1_0, .slice Ao69 t560.length co69] (by rfl) rfl rfl (by (try simp only [List.map_toArray, List.map_cons, List.map_nil]); rfl) ?_
     with_reducible refine (zelligeref04_make1.calls a1_0 (fun k_ => some k_ = (.slice Ao69 t560.length co69 : Value).ownBlock) _ _ t560 t563 t564 _ ?side1 A58.out).mono ?_
     (case side1 => exact Kd.R_V (Kd.R_tight rfl (Kd.R_types (Kd.R_types (Kd.R_types (HO562.out) BK546.out (by decide)) BK547.out (by decide)) BK548.out (by decide))))
     rintro e w70 ⟨v565, rfl, ho0, hb⟩
     refine ⟨_, rfl, ?_⟩
     replace HO0_1 := am (Kd.V_below HO0_1.out hb)
     replace HO1_1 := am (Kd.V_below HO1_1.out hb)
     have HO566 := am (Kd.V_lower (Kd.V_mono (ok' := fun k_ => ((P0_1_ k_ ∨ P1_1_ k_) ∨ w.heap.size ≤ k_) ∧ k_ ≠ gb546 ∧ k_ ≠ gb547 ∧ k_ ≠ gb548) ho0 (fun k_ hk_ => ⟨Or.elim hk_ (fun hs_ => (.inr (((Kd.R_types (Kd.R_types (Kd.R_types (HO562.out) BK546.out (by decide)) BK547.out (by decide)) BK548.out (by decide)).1 k_ hs_.symm).1.1.1.1))) (fun hn_ => (.inr (Nat.le_trans (below_size HB.out) hn_))), Or.elim hk_ (fun hs_ => ((Kd.R_types (Kd.R_types (Kd.R_types (HO562.out) BK546.out (by decide)) BK547.out (by decide)) BK548.out (by decide)).1 k_ hs_.symm).1.1.2) (fun hn_ => (Kd.freshB BK546.out k_ hn_)), Or.elim hk_ (fun hs_ => ((Kd.R_types (Kd.R_types (Kd.R_types (HO562.out) BK546.out (by decide)) BK547.out (by decide)) BK548.out (by decide)).1 k_ hs_.symm).1.2) (fun hn_ => (Kd.freshB BK547.out k_ hn_)), Or.elim hk_ (fun hs_ => ((Kd.R_types (Kd.R_types (Kd.R_types (HO562.out) BK546.out (by decide)) BK547.out (by decide)) BK548.out (by decide)).1 k_ hs_.symm).2) (fun hn_ => (Kd.freshB BK548.out k_ hn_))⟩)) (below_size HB.out))
     replace HO562 := am (Kd.R_below HO562.out hb)
     replace BK546 := am (blk_below BK546.out hb)
     replace BK547 := am (blk_below BK547.out hb)
     replace BK548 := am (blk_below BK548.out hb)
     replace HB := am (below_step HB.out hb)
     try clear hb
     try clear ho0
     obtain ⟨Ao72, co72, eo72⟩ := Kd.V_slice HO566.out
     (subst eo72)
     refine hK.out _ _ ⟨(blk_cell BK547.out 0).trans rfl, (blk_cell BK547.out 1).trans rfl, (blk_cell BK546.out 0).trans rfl, (blk_cell BK546.out 1).trans rfl⟩ (fun hHeld => ?_)
     clear hK K
     refine norm_ (a' := ?_) ?_ ?_
     rotate_left
     ·
      show Act.put _ (some 47) _ = _
      simp only [Act.put, sI_, s0_, s1_, i64_w, i32_w]
      rfl
     refine one_ (i := 8) (N := none) #[true, true, true, true, true, true, true, true, true] rfl rfl (one_of HT_.out (by kernel_rfl)) (by decide) (fun K hK => ?_)
     have hs71 : w70.cell? ⟨gb548, 0, none⟩ = some (.int .i64 0) := (blk_cell BK548.out 0).trans rfl
     have hfs71 := blk_frozen BK548.out 0
     have hns71_0 := NB546_548.out
     have hns71_1 := NB547_548.out
     have hms71_0 := NB548_546.out
     have hms71_1 := NB548_547.out
     have hs73 : w70.cell? ⟨gb548, 1, none⟩ = some (.slice none 0 0) := (blk_cell BK548.out 1).trans rfl
     have hfs73 := blk_frozen BK548.out 1
     have hns73_0 := NB546_548.out
     have hns73_1 := NB547_548.out
     have hms73_0 := NB548_546.out
     have hms73_1 := NB548_547.out
     refine skip_ (w1 := ?_) (by rfl) rfl ?_ ?_
     rotate_left
     ·
      go_simp
      rfl
     refine hK.out _ _ ⟨((cell_far (p := ⟨gb548, _, none⟩) NB547_548.out _).trans (((cell_far (p := ⟨gb548, _, none⟩) NB547_548.out _).trans (hHeld.1)))), ((cell_far (p := ⟨gb548, _, none⟩) NB547_548.out _).trans (((cell_far (p := ⟨gb548, _, none⟩) NB547_548.out _).trans (hHeld.2.1)))), ((cell_far (p := ⟨gb548, _, none⟩) NB546_548.out _).trans (((cell_far (p := ⟨gb548, _, none⟩) NB546_548.out _).trans (hHeld.2.2.1)))), ((cell_far (p := ⟨gb548, _, none⟩) NB546_548.out _).trans (((cell_far (p := ⟨gb548, _, none⟩) NB546_548.out _).trans (hHeld.2.2.2))))⟩ (fun hHeld => ?_)
     clear hK K
     refine done_ (done_of HT_.out (by kernel_rfl)) ?_
     try go_wp2
     refine bodyPost_ret (results_cell_row rfl _ _ gb548 33 #[.int .i64 t563, .slice Ao72 t564.length co72] (0, 0) _ rfl (by refine blk_put (cs := #[.int .i64 t563, .slice none 0 0]) ?_ 1 _ rfl; refine blk_put (cs := #[.int .i64 0, .slice none 0 0]) ?_ 0 _ rfl; exact BK548.out) Try.underlying33 rfl (by kernel_rfl)) rfl ?_
     exact ⟨_, by rfl, by exact Kd.V_mono (Kd.V_far (p := ⟨gb548, 1, none⟩) (Kd.V_far (p := ⟨gb548, 0, none⟩) (Kd.V_mono HO566.out (fun k_ hk => (⟨hk, hk.2.2.2⟩ : _ ∧ k_ ≠ gb548))) (fun _ hk => hk.2) (.int .i64 t563)) (fun _ hk => hk.2) (.slice Ao72 t564.length co72)) (fun _ hk => hk.1.1), by repeat ((with_reducible first | exact HB.out | refine below_set ?_ GE548.out))⟩

end Go.Proofs.Ytmfmojldebhboaa.ZWhole
