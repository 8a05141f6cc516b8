-- printed by zprint.py, a program of this session's
import Derived.Test.YtmfmojldebhboaaZWhole0
import Derived.Test.YtmfmojldebhboaaZWholegQOf
import Derived.Test.YtmfmojldebhboaaZWholegRAdd
import Derived.Test.YtmfmojldebhboaaZWholegRTrim
namespace Go.Proofs.Ytmfmojldebhboaa.ZWhole
open Go.RowKit Go.Proofs.YtmfmojldebhboaaW.PrintWords Go.Proofs.YtmfmojldebhboaaW.PrintLast Go.Proofs.YtmfmojldebhboaaW.PrintMore
set_option linter.unusedVariables false
set_option linter.unusedSimpArgs false

/-! ### zelligeref04_Add: function 20 -/
def zelligeref04_Add.f (k : Nat) (a0_0 : Int) (l0_1 : List Int) (a1_0 : Int) (l1_1 : List Int) : Option (Int × List Int) := if a0_0 = 0 then (some (a1_0, l1_1)) else (if a1_0 = 0 then (some (a0_0, l0_1)) else (if a0_0 = a1_0 then ((zelligeref03_Add.f k l0_1 l1_1).bind fun jy => (some (a0_0, jy))) else ((zelligeref03_Cmp.f k l0_1 l1_1).bind fun jv => (if jv ≥ 0 then ((zelligeref03_Sub.f k l0_1 l1_1).bind fun jw => ((zelligeref04_make1.f a0_0 jw).bind fun bt556 => (some (bt556.1, bt556.2)))) else ((zelligeref03_Sub.f k l1_1 l0_1).bind fun jx => ((zelligeref04_make1.f a1_0 jx).bind fun bt563 => (some (bt563.1, bt563.2))))))))
theorem zelligeref04_Add.mono : ∀ a0 a1 a2 a3 k, LeO (zelligeref04_Add.f k a0 a1 a2 a3) (zelligeref04_Add.f (k + 1) a0 a1 a2 a3) := by
 intro a0 a1 a2 a3 k
 unfold zelligeref04_Add.f
 repeat' first
   | (with_reducible exact zelligeref03_Add.mono _ _ _)
   | (with_reducible exact zelligeref03_Cmp.mono _ _ _)
   | (with_reducible exact zelligeref03_Sub.mono _ _ _)
   | (with_reducible exact LeO.refl _)
   | (with_reducible refine LeO.ite ?_ ?_)
   | (with_reducible refine LeO.bind ?_ (fun _ => ?_))
def zelligeref04_Add.T6 : Bool × List (List Nat × List Nat) := (true, [([], []), ([0], [0]), ([], []), ([2], [2]), ([], []), ([4], [4]), ([3, 5], [3, 5]), ([1, 6], [1, 6]), ([7, 6, 0, 1, 2, 3, 4, 5, 6, 7], [7])])
def zelligeref04_Add.B6 : List Nat := [0, 1, 0, 4, 0, 16, 60, 127, 255]
theorem zelligeref04_Add.tab6 : rtab .any (opsOf Try.f20 6) = zelligeref04_Add.T6 := by kernel_rfl
theorem zelligeref04_Add.bits6 : waitsOk zelligeref04_Add.T6.2 zelligeref04_Add.B6 = true := by kernel_rfl
def zelligeref04_Add.T8 : Bool × List (List Nat × List Nat) := (true, [([], []), ([0], [0]), ([], []), ([2], [2]), ([], []), ([4], [4]), ([3, 5], [3, 5]), ([1, 6, 6], [1, 6]), ([7, 7, 0, 1, 2, 3, 4, 5, 6, 7], [7])])
def zelligeref04_Add.B8 : List Nat := [0, 1, 0, 4, 0, 16, 60, 127, 255]
theorem zelligeref04_Add.tab8 : rtab .any (opsOf Try.f20 8) = zelligeref04_Add.T8 := by kernel_rfl
theorem zelligeref04_Add.bits8 : waitsOk zelligeref04_Add.T8.2 zelligeref04_Add.B8 = true := by kernel_rfl
def zelligeref04_Add.T9 : Bool × List (List Nat × List Nat) := (true, [([], []), ([0], [0]), ([], []), ([2], [2]), ([], []), ([4], [4]), ([3, 5], [3, 5]), ([1, 6, 6], [1, 6]), ([7, 7, 0, 1, 2, 3, 4, 5, 6, 7], [7])])
def zelligeref04_Add.B9 : List Nat := [0, 1, 0, 4, 0, 16, 60, 127, 255]
theorem zelligeref04_Add.tab9 : rtab .any (opsOf Try.f20 9) = zelligeref04_Add.T9 := by kernel_rfl
theorem zelligeref04_Add.bits9 : waitsOk zelligeref04_Add.T9.2 zelligeref04_Add.B9 = true := by kernel_rfl
set_option maxHeartbeats 8000000 in
set_option maxRecDepth 100000 in
theorem zelligeref04_Add.calls (k : Nat) (a0_0 : Int) (P0_1_ : Nat → Prop) (jo : Option Addr) (jp : Nat) (l0_1 : List Int) (a1_0 : Int) (P1_1_ : Nat → Prop) (jq : Option Addr) (jr : Nat) (l1_1 : List Int) (r1 : Int) (r2 : List Int) (w : World) (jR : Kd.V (Kd.int .i64) 3 w w.heap.size (fun k_ => P0_1_ k_) (.slice jo l0_1.length jp) l0_1) (jS : Kd.V (Kd.int .i64) 3 w w.heap.size (fun k_ => P1_1_ k_) (.slice jq l1_1.length jr) l1_1) (h : zelligeref04_Add.f k a0_0 l0_1 a1_0 l1_1 = some (r1, r2)) :
  Calls Try.prog 20 #[.agg #[.int .i64 a0_0, .slice jo l0_1.length jp], .agg #[.int .i64 a1_0, .slice jq l1_1.length jr]] w fun e w' => ∃ v1_ : Value, e = .returned (.agg #[.int .i64 r1, v1_]) ∧ Kd.V (Kd.int .i64) 3 w' w.heap.size (fun k_ => ((P0_1_ k_ ∨ P1_1_ k_) ∨ w.heap.size ≤ k_)) v1_ r2 ∧ Below w.heap.size w w' := by
 have hu33 := Try.underlying33
 have je := am (show Kd.V (Kd.int .i64) 3 w w.heap.size (fun k_ => ((P0_1_ k_ ∨ P1_1_ k_) ∨ w.heap.size ≤ k_)) (.slice jo l0_1.length jp) l0_1 from Kd.V_mono jR (fun k_ hk => .inl (.inl hk)))
 have jf := am (show Kd.V (Kd.int .i64) 3 w w.heap.size (fun k_ => ((P0_1_ k_ ∨ P1_1_ k_) ∨ w.heap.size ≤ k_)) (.slice jq l1_1.length jr) l1_1 from Kd.V_mono jS (fun k_ hk => .inl (.inr hk)))
 have HB := am (Below.refl w.heap.size w)
 have H : (if a0_0 = 0 then (some (a1_0, l1_1)) else (if a1_0 = 0 then (some (a0_0, l0_1)) else (if a0_0 = a1_0 then ((zelligeref03_Add.f k l0_1 l1_1).bind fun jy => (some (a0_0, jy))) else ((zelligeref03_Cmp.f k l0_1 l1_1).bind fun jv => (if jv ≥ 0 then ((zelligeref03_Sub.f k l0_1 l1_1).bind fun jw => ((zelligeref04_make1.f a0_0 jw).bind fun bt556 => (some (bt556.1, bt556.2)))) else ((zelligeref03_Sub.f k l1_1 l0_1).bind fun jx => ((zelligeref04_make1.f a1_0 jx).bind fun bt563 => (some (bt563.1, bt563.2))))))))) = some (r1, r2) := h
 clear h
 by_cases c3 : a0_0 = 0
 ·
  rw [if_pos c3] at H
  have c3b0 : (a0_0 == 0) = true := beq_iff_eq.mpr c3
  have c3b1 : (a0_0 != 0) = false := bne_eq_false_iff_eq.mpr c3
  clear c3
  simp only [Option.some.injEq, Prod.mk.injEq] at H
  obtain ⟨rfl, rfl⟩ := H
  go_enter Try.func20, Try.ntmps20
  go_wp2_with (first | ((with_reducible refine gate_dst (N := 2) rfl ?_); refine box_event ?hg (N := 2) ?hd (cs := #[.int .i64 a0_0, .slice jo l0_1.length jp]) (t := 33) ?hr ?_; (case hd => rfl); (case hg => rfl); (case hr => (go_simp; done)); intro ji hg w4 hbox hb; replace je := am (Kd.V_below (Kd.V_elderB je.out ji (Nat.le_of_eq hg.symm)) hb); replace jf := am (Kd.V_below (Kd.V_elderB jf.out ji (Nat.le_of_eq hg.symm)) hb); have ja := am hbox; have jz := am (gel hg HB.out); have jA := am (gel hg HB.out); replace HB := am (below_step HB.out hb); clear hb hbox hg) | ((with_reducible refine gate_dst (N := 3) rfl ?_); refine box_event ?hg (N := 3) ?hd (cs := #[.int .i64 a1_0, .slice jq l1_1.length jr]) (t := 33) ?hr ?_; (case hd => rfl); (case hg => rfl); (case hr => (go_simp; done)); intro jj hg w5 hbox hb; replace je := am (Kd.V_below (Kd.V_elderB je.out jj (Nat.le_of_eq hg.symm)) hb); replace jf := am (Kd.V_below (Kd.V_elderB jf.out jj (Nat.le_of_eq hg.symm)) hb); have jb := am hbox; have jB := am (gel hg HB.out); have jC := am (gel hg HB.out); replace HB := am (below_step HB.out hb); have jm := am (nel hg ja.out); have jn := am (ner hg ja.out); replace ja := am (blk_below ja.out hb); clear hb hbox hg) | ((with_reducible refine gate_dst (N := 4) rfl ?_); refine box_event ?hg (N := 4) ?hd (cs := #[.int .i64 0, .slice none 0 0]) (t := 33) ?hr ?_; (case hd => rfl); (case hg => rfl); (case hr => (go_simp; done)); intro jc hg w6 hbox hb; replace je := am (Kd.V_below (Kd.V_elderB je.out jc (Nat.le_of_eq hg.symm)) hb); replace jf := am (Kd.V_below (Kd.V_elderB jf.out jc (Nat.le_of_eq hg.symm)) hb); have jd := am hbox; have jD := am (gel hg HB.out); have js := am (gel hg HB.out); replace HB := am (below_step HB.out hb); have jg := am (nel hg ja.out); have jk := am (ner hg ja.out); replace ja := am (blk_below ja.out hb); have jh := am (nel hg jb.out); have jl := am (ner hg jb.out); replace jb := am (blk_below jb.out hb); clear hb hbox hg; have zk := jm.out; have zl := jn.out; have zm := jg.out; have zn := jk.out; have qM : w6.cell? ⟨ji, 0, none⟩ = some (.int .i64 a0_0) := (blk_cell ja.out 0).trans rfl; have qN : w6.cell? ⟨ji, 1, none⟩ = some (.slice jo l0_1.length jp) := (blk_cell ja.out 1).trans rfl; have qO := blk_frozen ja.out 0; have qP := blk_frozen ja.out 1; have qQ := jh.out; have qR := jl.out; have j4 : w6.cell? ⟨jj, 0, none⟩ = some (.int .i64 a1_0) := (blk_cell jb.out 0).trans rfl; have j5 : w6.cell? ⟨jj, 1, none⟩ = some (.slice jq l1_1.length jr) := (blk_cell jb.out 1).trans rfl; have j6 := blk_frozen jb.out 0; have j7 := blk_frozen jb.out 1; have j8 : w6.cell? ⟨jc, 0, none⟩ = some (.int .i64 0) := (blk_cell jd.out 0).trans rfl; have j9 : w6.cell? ⟨jc, 1, none⟩ = some (.slice none 0 0) := (blk_cell jd.out 1).trans rfl; have qa := blk_frozen jd.out 0; have qb := blk_frozen jd.out 1))
  refine bodyPost_ret (results_cell_row rfl _ _ jc 33 #[.int .i64 a1_0, .slice jq l1_1.length jr] (0, 0) _ rfl (by refine blk_put (cs := #[.int .i64 a1_0, .slice none 0 0]) ?_ 1 _ rfl; refine blk_put (cs := #[.int .i64 0, .slice none 0 0]) ?_ 0 _ rfl; exact jd.out) Try.underlying33 rfl (by kernel_rfl)) rfl ?_
  exact ⟨_, by rfl, by exact Kd.V_mono (Kd.V_far (p := ⟨jc, 1, none⟩) (Kd.V_far (p := ⟨jc, 0, none⟩) (Kd.V_mono jf.out (fun k_ hk => (⟨hk, hk.2⟩ : _ ∧ k_ ≠ jc))) (fun _ hk => hk.2) (.int .i64 a1_0)) (fun _ hk => hk.2) (.slice jq l1_1.length jr)) (fun _ hk => hk.1.1.1.1), by repeat ((with_reducible first | exact HB.out | refine below_set ?_ js.out))⟩
 ·
  rw [if_neg c3] at H
  have c3b0 : (a0_0 == 0) = false := beq_eq_false_iff_ne.mpr c3
  have c3b1 : (a0_0 != 0) = true := bne_iff_ne.mpr c3
  by_cases jN : a1_0 = 0
  ·
   rw [if_pos jN] at H
   have c13b0 : (a1_0 == 0) = true := beq_iff_eq.mpr jN
   have c13b1 : (a1_0 != 0) = false := bne_eq_false_iff_eq.mpr jN
   clear jN
   simp only [Option.some.injEq, Prod.mk.injEq] at H
   obtain ⟨rfl, rfl⟩ := H
   go_enter Try.func20, Try.ntmps20
   go_wp2_with (first | ((with_reducible refine gate_dst (N := 2) rfl ?_); refine box_event ?hg (N := 2) ?hd (cs := #[.int .i64 a0_0, .slice jo l0_1.length jp]) (t := 33) ?hr ?_; (case hd => rfl); (case hg => rfl); (case hr => (go_simp; done)); intro ji hg zE hbox hb; replace je := am (Kd.V_below (Kd.V_elderB je.out ji (Nat.le_of_eq hg.symm)) hb); replace jf := am (Kd.V_below (Kd.V_elderB jf.out ji (Nat.le_of_eq hg.symm)) hb); have ja := am hbox; have jz := am (gel hg HB.out); have jA := am (gel hg HB.out); replace HB := am (below_step HB.out hb); clear hb hbox hg) | ((with_reducible refine gate_dst (N := 3) rfl ?_); refine box_event ?hg (N := 3) ?hd (cs := #[.int .i64 a1_0, .slice jq l1_1.length jr]) (t := 33) ?hr ?_; (case hd => rfl); (case hg => rfl); (case hr => (go_simp; done)); intro jj hg zF hbox hb; replace je := am (Kd.V_below (Kd.V_elderB je.out jj (Nat.le_of_eq hg.symm)) hb); replace jf := am (Kd.V_below (Kd.V_elderB jf.out jj (Nat.le_of_eq hg.symm)) hb); have jb := am hbox; have jB := am (gel hg HB.out); have jC := am (gel hg HB.out); replace HB := am (below_step HB.out hb); have jm := am (nel hg ja.out); have jn := am (ner hg ja.out); replace ja := am (blk_below ja.out hb); clear hb hbox hg) | ((with_reducible refine gate_dst (N := 4) rfl ?_); refine box_event ?hg (N := 4) ?hd (cs := #[.int .i64 0, .slice none 0 0]) (t := 33) ?hr ?_; (case hd => rfl); (case hg => rfl); (case hr => (go_simp; done)); intro jc hg jP hbox hb; replace je := am (Kd.V_below (Kd.V_elderB je.out jc (Nat.le_of_eq hg.symm)) hb); replace jf := am (Kd.V_below (Kd.V_elderB jf.out jc (Nat.le_of_eq hg.symm)) hb); have jd := am hbox; have jD := am (gel hg HB.out); have js := am (gel hg HB.out); replace HB := am (below_step HB.out hb); have jg := am (nel hg ja.out); have jk := am (ner hg ja.out); replace ja := am (blk_below ja.out hb); have jh := am (nel hg jb.out); have jl := am (ner hg jb.out); replace jb := am (blk_below jb.out hb); clear hb hbox hg; have qS := jm.out; have qT := jn.out; have qU := jg.out; have qV := jk.out; have qc : jP.cell? ⟨ji, 0, none⟩ = some (.int .i64 a0_0) := (blk_cell ja.out 0).trans rfl; have qd : jP.cell? ⟨ji, 1, none⟩ = some (.slice jo l0_1.length jp) := (blk_cell ja.out 1).trans rfl; have qe := blk_frozen ja.out 0; have qf := blk_frozen ja.out 1; have qW := jh.out; have qX := jl.out; have qg : jP.cell? ⟨jj, 0, none⟩ = some (.int .i64 a1_0) := (blk_cell jb.out 0).trans rfl; have qh : jP.cell? ⟨jj, 1, none⟩ = some (.slice jq l1_1.length jr) := (blk_cell jb.out 1).trans rfl; have qi := blk_frozen jb.out 0; have qj := blk_frozen jb.out 1; have qk : jP.cell? ⟨jc, 0, none⟩ = some (.int .i64 0) := (blk_cell jd.out 0).trans rfl; have ql : jP.cell? ⟨jc, 1, none⟩ = some (.slice none 0 0) := (blk_cell jd.out 1).trans rfl; have qm := blk_frozen jd.out 0; have qn := blk_frozen jd.out 1))
   refine bodyPost_ret (results_cell_row rfl _ _ jc 33 #[.int .i64 a0_0, .slice jo l0_1.length jp] (0, 0) _ rfl (by refine blk_put (cs := #[.int .i64 a0_0, .slice none 0 0]) ?_ 1 _ rfl; refine blk_put (cs := #[.int .i64 0, .slice none 0 0]) ?_ 0 _ rfl; exact jd.out) Try.underlying33 rfl (by kernel_rfl)) rfl ?_
   exact ⟨_, by rfl, by exact Kd.V_mono (Kd.V_far (p := ⟨jc, 1, none⟩) (Kd.V_far (p := ⟨jc, 0, none⟩) (Kd.V_mono je.out (fun k_ hk => (⟨hk, hk.2⟩ : _ ∧ k_ ≠ jc))) (fun _ hk => hk.2) (.int .i64 a0_0)) (fun _ hk => hk.2) (.slice jo l0_1.length jp)) (fun _ hk => hk.1.1.1.1), by repeat ((with_reducible first | exact HB.out | refine below_set ?_ js.out))⟩
  ·
   rw [if_neg jN] at H
   have c13b0 : (a1_0 == 0) = false := beq_eq_false_iff_ne.mpr jN
   have c13b1 : (a1_0 != 0) = true := bne_iff_ne.mpr jN
   by_cases jO : a0_0 = a1_0
   ·
    rw [if_pos jO] at H
    have c23b0 : (a0_0 == a1_0) = true := beq_iff_eq.mpr jO
    have c23b1 : (a0_0 != a1_0) = false := bne_eq_false_iff_eq.mpr jO
    clear jO
    obtain ⟨jy, zo, H⟩ := bindE H
    simp only [Option.some.injEq, Prod.mk.injEq] at H
    obtain ⟨rfl, rfl⟩ := H
    go_enter Try.func20, Try.ntmps20
    try go_wp2_with (first | ((with_reducible refine gate_dst (N := 2) rfl ?_); refine box_event ?hg (N := 2) ?hd (cs := #[.int .i64 a0_0, .slice jo l0_1.length jp]) (t := 33) ?hr ?_; (case hd => rfl); (case hg => rfl); (case hr => (go_simp; done)); intro ji hg zG hbox hb; replace je := am (Kd.V_below (Kd.V_elderB je.out ji (Nat.le_of_eq hg.symm)) hb); replace jf := am (Kd.V_below (Kd.V_elderB jf.out ji (Nat.le_of_eq hg.symm)) hb); have ja := am hbox; have jz := am (gel hg HB.out); have jA := am (gel hg HB.out); replace HB := am (below_step HB.out hb); clear hb hbox hg) | ((with_reducible refine gate_dst (N := 3) rfl ?_); refine box_event ?hg (N := 3) ?hd (cs := #[.int .i64 a1_0, .slice jq l1_1.length jr]) (t := 33) ?hr ?_; (case hd => rfl); (case hg => rfl); (case hr => (go_simp; done)); intro jj hg zH hbox hb; replace je := am (Kd.V_below (Kd.V_elderB je.out jj (Nat.le_of_eq hg.symm)) hb); replace jf := am (Kd.V_below (Kd.V_elderB jf.out jj (Nat.le_of_eq hg.symm)) hb); have jb := am hbox; have jB := am (gel hg HB.out); have jC := am (gel hg HB.out); replace HB := am (below_step HB.out hb); have jm := am (nel hg ja.out); have jn := am (ner hg ja.out); replace ja := am (blk_below ja.out hb); clear hb hbox hg) | ((with_reducible refine gate_dst (N := 4) rfl ?_); refine box_event ?hg (N := 4) ?hd (cs := #[.int .i64 0, .slice none 0 0]) (t := 33) ?hr ?_; (case hd => rfl); (case hg => rfl); (case hr => (go_simp; done)); intro jc hg jT hbox hb; replace je := am (Kd.V_below (Kd.V_elderB je.out jc (Nat.le_of_eq hg.symm)) hb); replace jf := am (Kd.V_below (Kd.V_elderB jf.out jc (Nat.le_of_eq hg.symm)) hb); have jd := am hbox; have jD := am (gel hg HB.out); have js := am (gel hg HB.out); replace HB := am (below_step HB.out hb); have jg := am (nel hg ja.out); have jk := am (ner hg ja.out); replace ja := am (blk_below ja.out hb); have jh := am (nel hg jb.out); have jl := am (ner hg jb.out); replace jb := am (blk_below jb.out hb); clear hb hbox hg; have qY := jm.out; have qZ := jn.out; have q0 := jg.out; have q1 := jk.out; have qo : jT.cell? ⟨ji, 0, none⟩ = some (.int .i64 a0_0) := (blk_cell ja.out 0).trans rfl; have qp : jT.cell? ⟨ji, 1, none⟩ = some (.slice jo l0_1.length jp) := (blk_cell ja.out 1).trans rfl; have qq := blk_frozen ja.out 0; have qr := blk_frozen ja.out 1; have q2 := jh.out; have q3 := jl.out; have qs : jT.cell? ⟨jj, 0, none⟩ = some (.int .i64 a1_0) := (blk_cell jb.out 0).trans rfl; have qt : jT.cell? ⟨jj, 1, none⟩ = some (.slice jq l1_1.length jr) := (blk_cell jb.out 1).trans rfl; have qu := blk_frozen jb.out 0; have qv := blk_frozen jb.out 1))
    replace je := am (Kd.V_drew je.out)
    replace jf := am (Kd.V_drew jf.out)
    replace ja := am (blk_drew ja.out)
    replace jb := am (blk_drew jb.out)
    replace jd := am (blk_drew jd.out)
    replace HB := am (below_drew1 HB.out)
    refine start_ (n := 9) (S := fun w' => w'.cell? ⟨ji, 0, none⟩ = some (.int .i64 a0_0) ∧ w'.cell? ⟨ji, 1, none⟩ = some (.slice jo l0_1.length jp) ∧ w'.cell? ⟨jj, 0, none⟩ = some (.int .i64 a1_0) ∧ w'.cell? ⟨jj, 1, none⟩ = some (.slice jq l1_1.length jr)) (ds := []) #[false, false, false, false, false, false, false, false, false] (by kernel_rfl) rfl rfl ⟨(blk_cell ja.out 0).trans rfl, (blk_cell ja.out 1).trans rfl, (blk_cell jb.out 0).trans rfl, (blk_cell jb.out 1).trans rfl⟩ (fun hHeld => ?_); refine with_tabW zelligeref04_Add.tab6 zelligeref04_Add.bits6 (fun HT_ HW_ => ?_)
    generalize jT.drew = zI at je jf ja jb jd HB hHeld ⊢
    refine pure_ (i := 0) (N := some 18) (v := ?_) (a' := ?_) #[true, false, false, false, false, false, false, false, false] rfl rfl (any_of HT_.out (by kernel_rfl)) (fun _ _ _ h => h) (Or.inl ⟨by rfl, ?_⟩) ?_ ?_
    rotate_left
    ·
     intro w'
     go_simp
     with_reducible rfl
    rotate_left
    ·
     simp only [Act.put, sI_, s0_, s1_, i64_w, i32_w]
     rfl
    refine pure_ (i := 2) (N := some 20) (v := ?_) (a' := ?_) #[true, false, true, false, false, false, false, false, false] rfl rfl (any_of HT_.out (by kernel_rfl)) (fun _ _ _ h => h) (Or.inl ⟨by rfl, ?_⟩) ?_ ?_
    rotate_left
    ·
     intro w'
     go_simp
     with_reducible rfl
    rotate_left
    ·
     simp only [Act.put, sI_, s0_, s1_, i64_w, i32_w]
     rfl
    refine pure_ (i := 4) (N := some 22) (v := ?_) (a' := ?_) #[true, false, true, false, true, false, false, false, false] rfl rfl (any_of HT_.out (by kernel_rfl)) (fun _ _ _ h => h) (Or.inl ⟨by rfl, ?_⟩) ?_ ?_
    rotate_left
    ·
     intro w'
     go_simp
     with_reducible rfl
    rotate_left
    ·
     simp only [Act.put, sI_, s0_, s1_, i64_w, i32_w]
     rfl
    refine take_ (i := 1) (N := some 19) (v := ?_) (a' := ?_) #[true, true, true, false, true, false, false, false, false] rfl rfl (take_ofW HT_.out HW_.out (by kernel_rfl)) (fun _ _ _ h => h) (Or.inl ⟨by rfl, ?_⟩) hHeld ?_ ?_
    rotate_left
    ·
     rintro w' ⟨s0, s1, s2, s3⟩
     go_simp
     with_reducible rfl
    rotate_left
    ·
     simp only [Act.put, sI_, s0_, s1_, i64_w, i32_w]
     rfl
    refine take_ (i := 3) (N := some 21) (v := ?_) (a' := ?_) #[true, true, true, true, true, false, false, false, false] rfl rfl (take_ofW HT_.out HW_.out (by kernel_rfl)) (fun _ _ _ h => h) (Or.inl ⟨by rfl, ?_⟩) hHeld ?_ ?_
    rotate_left
    ·
     rintro w' ⟨s0, s1, s2, s3⟩
     go_simp
     with_reducible rfl
    rotate_left
    ·
     simp only [Act.put, sI_, s0_, s1_, i64_w, i32_w]
     rfl
    refine take_ (i := 5) (N := some 23) (v := ?_) (a' := ?_) #[true, true, true, true, true, true, false, false, false] rfl rfl (take_ofW HT_.out HW_.out (by kernel_rfl)) (fun _ _ _ h => h) (Or.inl ⟨by rfl, ?_⟩) hHeld ?_ ?_
    rotate_left
    ·
     rintro w' ⟨s0, s1, s2, s3⟩
     go_simp
     with_reducible rfl
    rotate_left
    ·
     simp only [Act.put, sI_, s0_, s1_, i64_w, i32_w]
     rfl
    refine one_ (i := 6) (N := some 24) #[true, true, true, true, true, true, true, false, false] rfl rfl (one_of HT_.out (by kernel_rfl)) (by decide) (fun K hK => ?_)
    refine goes_ Try.func53 (by kernel_rfl) rfl #[.slice jo l0_1.length jp, .slice jq l1_1.length jr] (by rfl) rfl rfl (by (try simp only [List.map_toArray, List.map_cons, List.map_nil]); rfl) ?_
    with_reducible refine (zelligeref03_Add.calls k _ _ l0_1 _ _ l1_1 jy _ ?side1 ?side2 ?side3 ?side4 zo.out).mono ?_
    (case side1 => exact (Kd.V_reads' je.out).2.2)
    (case side2 => exact (Kd.V_reads' je.out).2.1)
    (case side3 => exact (Kd.V_reads' jf.out).2.2)
    (case side4 => exact (Kd.V_reads' jf.out).2.1)
    rintro e q4 ⟨zp, rfl, ho0, hb⟩
    refine ⟨_, rfl, ?_⟩
    replace je := am (Kd.V_elder' je.out (Kd.R_base ho0) hb)
    replace jf := am (Kd.V_elder' jf.out (Kd.R_base ho0) hb)
    have jK := am (Kd.R_lower (Kd.R_newM (M := fun k_ => (w.heap.size ≤ k_)) ho0 (below_size HB.out) (fun k_ h_ => h_)) (below_size HB.out))
    replace ja := am (blk_below ja.out hb)
    replace jb := am (blk_below jb.out hb)
    replace jd := am (blk_below jd.out hb)
    replace HB := am (below_step HB.out hb)
    try clear hb
    try clear ho0
    obtain ⟨jU, jV, eo35⟩ := Kd.R_slice jK.out
    (subst eo35)
    refine hK.out _ _ ⟨(blk_cell ja.out 0).trans rfl, (blk_cell ja.out 1).trans rfl, (blk_cell jb.out 0).trans rfl, (blk_cell jb.out 1).trans rfl⟩ (fun hHeld => ?_)
    clear hK K
    refine norm_ (a' := ?_) ?_ ?_
    rotate_left
    ·
     show Act.put _ (some 24) _ = _
     simp only [Act.put, sI_, s0_, s1_, i64_w, i32_w]
     rfl
    refine pure_ (i := 7) (N := some 25) (v := ?_) (a' := ?_) #[true, true, true, true, true, true, true, true, false] rfl rfl (any_of HT_.out (by kernel_rfl)) (fun _ _ _ h => h) (Or.inl ⟨by rfl, ?_⟩) ?_ ?_
    rotate_left
    ·
     intro w'
     go_simp
     with_reducible rfl
    rotate_left
    ·
     simp only [Act.put, sI_, s0_, s1_, i64_w, i32_w]
     rfl
    refine one_ (i := 8) (N := none) #[true, true, true, true, true, true, true, true, true] rfl rfl (one_of HT_.out (by kernel_rfl)) (by decide) (fun K hK => ?_)
    have zq : q4.cell? ⟨jc, 0, none⟩ = some (.int .i64 0) := (blk_cell jd.out 0).trans rfl
    have hfs36 := blk_frozen jd.out 0
    have hns36_0 := jg.out
    have hns36_1 := jh.out
    have hms36_0 := jk.out
    have hms36_1 := jl.out
    have zr : q4.cell? ⟨jc, 1, none⟩ = some (.slice none 0 0) := (blk_cell jd.out 1).trans rfl
    have hfs37 := blk_frozen jd.out 1
    have hns37_0 := jg.out
    have hns37_1 := jh.out
    have hms37_0 := jk.out
    have hms37_1 := jl.out
    refine skip_ (w1 := ?_) (by rfl) rfl ?_ ?_
    rotate_left
    ·
     go_simp
     rfl
    refine hK.out _ _ ⟨((cell_far (p := ⟨jc, _, none⟩) jg.out _).trans (((cell_far (p := ⟨jc, _, none⟩) jg.out _).trans (hHeld.1)))), ((cell_far (p := ⟨jc, _, none⟩) jg.out _).trans (((cell_far (p := ⟨jc, _, none⟩) jg.out _).trans (hHeld.2.1)))), ((cell_far (p := ⟨jc, _, none⟩) jh.out _).trans (((cell_far (p := ⟨jc, _, none⟩) jh.out _).trans (hHeld.2.2.1)))), ((cell_far (p := ⟨jc, _, none⟩) jh.out _).trans (((cell_far (p := ⟨jc, _, none⟩) jh.out _).trans (hHeld.2.2.2))))⟩ (fun hHeld => ?_)
    clear hK K
    refine done_ (done_of HT_.out (by kernel_rfl)) ?_
    try go_wp2
    refine bodyPost_ret (results_cell_row rfl _ _ jc 33 #[.int .i64 a0_0, .slice jU jy.length jV] (0, 0) _ rfl (by refine blk_put (cs := #[.int .i64 a0_0, .slice none 0 0]) ?_ 1 _ rfl; refine blk_put (cs := #[.int .i64 0, .slice none 0 0]) ?_ 0 _ rfl; exact jd.out) Try.underlying33 rfl (by kernel_rfl)) rfl ?_
    exact ⟨_, by rfl, Kd.V_mono (Kd.R_V (by exact Kd.R_mono (Kd.R_far (p := ⟨jc, 1, none⟩) (Kd.R_far (p := ⟨jc, 0, none⟩) (Kd.R_types jK.out jd.out (by decide)) (fun _ hk => hk.2) (.int .i64 a0_0)) (fun _ hk => hk.2) (.slice jU jy.length jV)) (fun _ hk => hk.1.1))) (fun k_ hk => by exact (.inr (hk))), by repeat ((with_reducible first | exact HB.out | refine below_set ?_ js.out))⟩
   ·
    rw [if_neg jO] at H
    have c23b0 : (a0_0 == a1_0) = false := beq_eq_false_iff_ne.mpr jO
    have c23b1 : (a0_0 != a1_0) = true := bne_iff_ne.mpr jO
    obtain ⟨jv, q5, H⟩ := bindE H
    by_cases jQ : jv ≥ 0
    ·
     rw [if_pos jQ] at H
     have c39b0 : decide (0 ≤ jv) = true := decide_eq_true jQ
     clear jQ
     obtain ⟨jw, zs, H⟩ := bindE H
     obtain ⟨⟨jG, jI⟩, zt, H⟩ := bindE H
     replace H : (some (jG, jI)) = some (r1, r2) := H
     simp only [Option.some.injEq, Prod.mk.injEq] at H
     obtain ⟨rfl, rfl⟩ := H
     go_enter Try.func20, Try.ntmps20
     try go_wp2_with (first | ((with_reducible refine gate_dst (N := 2) rfl ?_); refine box_event ?hg (N := 2) ?hd (cs := #[.int .i64 a0_0, .slice jo l0_1.length jp]) (t := 33) ?hr ?_; (case hd => rfl); (case hg => rfl); (case hr => (go_simp; done)); intro ji hg zJ hbox hb; replace je := am (Kd.V_below (Kd.V_elderB je.out ji (Nat.le_of_eq hg.symm)) hb); replace jf := am (Kd.V_below (Kd.V_elderB jf.out ji (Nat.le_of_eq hg.symm)) hb); have ja := am hbox; have jz := am (gel hg HB.out); have jA := am (gel hg HB.out); replace HB := am (below_step HB.out hb); clear hb hbox hg) | ((with_reducible refine gate_dst (N := 3) rfl ?_); refine box_event ?hg (N := 3) ?hd (cs := #[.int .i64 a1_0, .slice jq l1_1.length jr]) (t := 33) ?hr ?_; (case hd => rfl); (case hg => rfl); (case hr => (go_simp; done)); intro jj hg zK hbox hb; replace je := am (Kd.V_below (Kd.V_elderB je.out jj (Nat.le_of_eq hg.symm)) hb); replace jf := am (Kd.V_below (Kd.V_elderB jf.out jj (Nat.le_of_eq hg.symm)) hb); have jb := am hbox; have jB := am (gel hg HB.out); have jC := am (gel hg HB.out); replace HB := am (below_step HB.out hb); have jm := am (nel hg ja.out); have jn := am (ner hg ja.out); replace ja := am (blk_below ja.out hb); clear hb hbox hg) | ((with_reducible refine gate_dst (N := 4) rfl ?_); refine box_event ?hg (N := 4) ?hd (cs := #[.int .i64 0, .slice none 0 0]) (t := 33) ?hr ?_; (case hd => rfl); (case hg => rfl); (case hr => (go_simp; done)); intro jc hg jE hbox hb; replace je := am (Kd.V_below (Kd.V_elderB je.out jc (Nat.le_of_eq hg.symm)) hb); replace jf := am (Kd.V_below (Kd.V_elderB jf.out jc (Nat.le_of_eq hg.symm)) hb); have jd := am hbox; have jD := am (gel hg HB.out); have js := am (gel hg HB.out); replace HB := am (below_step HB.out hb); have jg := am (nel hg ja.out); have jk := am (ner hg ja.out); replace ja := am (blk_below ja.out hb); have jh := am (nel hg jb.out); have jl := am (ner hg jb.out); replace jb := am (blk_below jb.out hb); clear hb hbox hg; have q6 := jm.out; have q7 := jn.out; have q8 := jg.out; have q9 := jk.out; have qw : jE.cell? ⟨ji, 0, none⟩ = some (.int .i64 a0_0) := (blk_cell ja.out 0).trans rfl; have qx : jE.cell? ⟨ji, 1, none⟩ = some (.slice jo l0_1.length jp) := (blk_cell ja.out 1).trans rfl; have qy := blk_frozen ja.out 0; have qz := blk_frozen ja.out 1; have za := jh.out; have zb := jl.out; have qA : jE.cell? ⟨jj, 0, none⟩ = some (.int .i64 a1_0) := (blk_cell jb.out 0).trans rfl; have qB : jE.cell? ⟨jj, 1, none⟩ = some (.slice jq l1_1.length jr) := (blk_cell jb.out 1).trans rfl; have qC := blk_frozen jb.out 0; have qD := blk_frozen jb.out 1) | ((with_reducible refine gate_callee (f := 18) rfl ?_); refine goesL_ (some 30) rfl rfl Try.func18 (by kernel_rfl) rfl #[.slice jo l0_1.length jp, .slice jq l1_1.length jr] rfl (by (try simp only [List.map_toArray, List.map_cons, List.map_nil]); rfl) ?_; (with_reducible refine (zelligeref03_Cmp.calls k _ _ l0_1 _ _ l1_1 jv _ ?side1 ?side2 ?side3 ?side4 q5.out).mono ?_); (case side1 => exact (Kd.V_reads' je.out).2.2); (case side2 => exact (Kd.V_reads' je.out).2.1); (case side3 => exact (Kd.V_reads' jf.out).2.2); (case side4 => exact (Kd.V_reads' jf.out).2.1); rintro e w' ⟨rfl, ⟨nd, rfl⟩⟩; refine ⟨_, rfl, ?_⟩; (try (rw [drewN_self jE]; generalize hq_ : World.drewN jE _ = jE; have n0_ : Aside0 (Kd.V (Kd.int .i64) 3 jE w.heap.size (fun k_ => ((P0_1_ k_ ∨ P1_1_ k_) ∨ w.heap.size ≤ k_) ∧ k_ ≠ ji ∧ k_ ≠ jj ∧ k_ ≠ jc) (.slice jo l0_1.length jp) l0_1) := ⟨by rw [← hq_]; exact (by (with_reducible repeat (apply Kd.V_drewN)); exact Kd.V_mono je.out (fun _ hk => ⟨hk.1.1.1, ⟨hk.1.1.2, ⟨hk.1.2, hk.2⟩⟩⟩))⟩; have n1_ : Aside0 (Kd.V (Kd.int .i64) 3 jE w.heap.size (fun k_ => ((P0_1_ k_ ∨ P1_1_ k_) ∨ w.heap.size ≤ k_) ∧ k_ ≠ ji ∧ k_ ≠ jj ∧ k_ ≠ jc) (.slice jq l1_1.length jr) l1_1) := ⟨by rw [← hq_]; exact (by (with_reducible repeat (apply Kd.V_drewN)); exact Kd.V_mono jf.out (fun _ hk => ⟨hk.1.1.1, ⟨hk.1.1.2, ⟨hk.1.2, hk.2⟩⟩⟩))⟩; have n2_ : Aside0 (jE.heap[ji]? = some (.cells #[.int .i64 a0_0, .slice jo l0_1.length jp] 33 (0, 0))) := ⟨by rw [← hq_]; exact (by (with_reducible repeat (refine blk_drewN ?_ _)); exact ja.out)⟩; have n3_ : Aside0 (jE.heap[jj]? = some (.cells #[.int .i64 a1_0, .slice jq l1_1.length jr] 33 (0, 0))) := ⟨by rw [← hq_]; exact (by (with_reducible repeat (refine blk_drewN ?_ _)); exact jb.out)⟩; have n4_ : Aside0 (jE.heap[jc]? = some (.cells #[.int .i64 0, .slice none 0 0] 33 (0, 0))) := ⟨by rw [← hq_]; exact (by (with_reducible repeat (refine blk_drewN ?_ _)); exact jd.out)⟩; have n5_ : Aside0 (Below w.heap.size w jE) := ⟨by rw [← hq_]; exact (by repeat ((with_reducible first | exact HB.out | apply pw_below_drewN)))⟩; clear je jf ja jb jd HB hq_; have je := n0_; have jf := n1_; have ja := n2_; have jb := n3_; have jd := n4_; have HB := n5_; clear n0_ n1_ n2_ n3_ n4_ n5_))))
     replace je := am (Kd.V_drew je.out)
     replace jf := am (Kd.V_drew jf.out)
     replace ja := am (blk_drew ja.out)
     replace jb := am (blk_drew jb.out)
     replace jd := am (blk_drew jd.out)
     replace HB := am (below_drew1 HB.out)
     refine start_ (n := 9) (S := fun w' => w'.cell? ⟨ji, 0, none⟩ = some (.int .i64 a0_0) ∧ w'.cell? ⟨ji, 1, none⟩ = some (.slice jo l0_1.length jp) ∧ w'.cell? ⟨jj, 0, none⟩ = some (.int .i64 a1_0) ∧ w'.cell? ⟨jj, 1, none⟩ = some (.slice jq l1_1.length jr)) (ds := []) #[false, false, false, false, false, false, false, false, false] (by kernel_rfl) rfl rfl ⟨(blk_cell ja.out 0).trans rfl, (blk_cell ja.out 1).trans rfl, (blk_cell jb.out 0).trans rfl, (blk_cell jb.out 1).trans rfl⟩ (fun hHeld => ?_); refine with_tabW zelligeref04_Add.tab8 zelligeref04_Add.bits8 (fun HT_ HW_ => ?_)
     generalize jE.drew = zL at je jf ja jb jd HB hHeld ⊢
     refine pure_ (i := 0) (N := some 32) (v := ?_) (a' := ?_) #[true, false, false, false, false, false, false, false, false] rfl rfl (any_of HT_.out (by kernel_rfl)) (fun _ _ _ h => h) (Or.inl ⟨by rfl, ?_⟩) ?_ ?_
     rotate_left
     ·
      intro w'
      go_simp
      with_reducible rfl
     rotate_left
     ·
      simp only [Act.put, sI_, s0_, s1_, i64_w, i32_w]
      rfl
     refine pure_ (i := 2) (N := some 34) (v := ?_) (a' := ?_) #[true, false, true, false, false, false, false, false, false] rfl rfl (any_of HT_.out (by kernel_rfl)) (fun _ _ _ h => h) (Or.inl ⟨by rfl, ?_⟩) ?_ ?_
     rotate_left
     ·
      intro w'
      go_simp
      with_reducible rfl
     rotate_left
     ·
      simp only [Act.put, sI_, s0_, s1_, i64_w, i32_w]
      rfl
     refine pure_ (i := 4) (N := some 36) (v := ?_) (a' := ?_) #[true, false, true, false, true, false, false, false, false] rfl rfl (any_of HT_.out (by kernel_rfl)) (fun _ _ _ h => h) (Or.inl ⟨by rfl, ?_⟩) ?_ ?_
     rotate_left
     ·
      intro w'
      go_simp
      with_reducible rfl
     rotate_left
     ·
      simp only [Act.put, sI_, s0_, s1_, i64_w, i32_w]
      rfl
     refine take_ (i := 1) (N := some 33) (v := ?_) (a' := ?_) #[true, true, true, false, true, false, false, false, false] rfl rfl (take_ofW HT_.out HW_.out (by kernel_rfl)) (fun _ _ _ h => h) (Or.inl ⟨by rfl, ?_⟩) hHeld ?_ ?_
     rotate_left
     ·
      rintro w' ⟨s0, s1, s2, s3⟩
      go_simp
      with_reducible rfl
     rotate_left
     ·
      simp only [Act.put, sI_, s0_, s1_, i64_w, i32_w]
      rfl
     refine take_ (i := 3) (N := some 35) (v := ?_) (a' := ?_) #[true, true, true, true, true, false, false, false, false] rfl rfl (take_ofW HT_.out HW_.out (by kernel_rfl)) (fun _ _ _ h => h) (Or.inl ⟨by rfl, ?_⟩) hHeld ?_ ?_
     rotate_left
     ·
      rintro w' ⟨s0, s1, s2, s3⟩
      go_simp
      with_reducible rfl
     rotate_left
     ·
      simp only [Act.put, sI_, s0_, s1_, i64_w, i32_w]
      rfl
     refine take_ (i := 5) (N := some 37) (v := ?_) (a' := ?_) #[true, true, true, true, true, true, false, false, false] rfl rfl (take_ofW HT_.out HW_.out (by kernel_rfl)) (fun _ _ _ h => h) (Or.inl ⟨by rfl, ?_⟩) hHeld ?_ ?_
     rotate_left
     ·
      rintro w' ⟨s0, s1, s2, s3⟩
      go_simp
      with_reducible rfl
     rotate_left
     ·
      simp only [Act.put, sI_, s0_, s1_, i64_w, i32_w]
      rfl
     refine one_ (i := 6) (N := some 38) #[true, true, true, true, true, true, true, false, false] rfl rfl (one_of HT_.out (by kernel_rfl)) (by decide) (fun K hK => ?_)
     refine goes_ Try.func54 (by kernel_rfl) rfl #[.slice jo l0_1.length jp, .slice jq l1_1.length jr] (by rfl) rfl rfl (by (try simp only [List.map_toArray, List.map_cons, List.map_nil]); rfl) ?_
     with_reducible refine (zelligeref03_Sub.calls k _ _ l0_1 _ _ l1_1 jw _ ?side1 ?side2 ?side3 ?side4 zs.out).mono ?_
     (case side1 => exact (Kd.V_reads' je.out).2.2)
     (case side2 => exact (Kd.V_reads' je.out).2.1)
     (case side3 => exact (Kd.V_reads' jf.out).2.2)
     (case side4 => exact (Kd.V_reads' jf.out).2.1)
     rintro e zM ⟨zu, rfl, ho0, hb⟩
     refine ⟨_, rfl, ?_⟩
     replace je := am (Kd.V_elder' je.out (Kd.R_base ho0) hb)
     replace jf := am (Kd.V_elder' jf.out (Kd.R_base ho0) hb)
     have jt := am (Kd.R_lower (Kd.R_newM (M := fun k_ => (w.heap.size ≤ k_)) ho0 (below_size HB.out) (fun k_ h_ => h_)) (below_size HB.out))
     replace ja := am (blk_below ja.out hb)
     replace jb := am (blk_below jb.out hb)
     replace jd := am (blk_below jd.out hb)
     replace HB := am (below_step HB.out hb)
     try clear hb
     try clear ho0
     obtain ⟨jW, jX, eo52⟩ := Kd.R_slice jt.out
     (subst eo52)
     refine hK.out _ _ ⟨(blk_cell ja.out 0).trans rfl, (blk_cell ja.out 1).trans rfl, (blk_cell jb.out 0).trans rfl, (blk_cell jb.out 1).trans rfl⟩ (fun hHeld => ?_)
     clear hK K
     refine norm_ (a' := ?_) ?_ ?_
     rotate_left
     ·
      show Act.put _ (some 38) _ = _
      simp only [Act.put, sI_, s0_, s1_, i64_w, i32_w]
      rfl
     refine one_ (i := 7) (N := some 39) #[true, true, true, true, true, true, true, true, false] rfl rfl (one_of HT_.out (by kernel_rfl)) (by decide) (fun K hK => ?_)
     refine goes_ Try.func51 (by kernel_rfl) rfl #[.int .i64 a0_0, .slice jW jw.length jX] (by rfl) rfl rfl (by (try simp only [List.map_toArray, List.map_cons, List.map_nil]); rfl) ?_
     with_reducible refine (zelligeref04_make1.calls a0_0 (fun k_ => some k_ = (.slice jW jw.length jX : Value).ownBlock) _ _ jw jG jI _ ?side1 zt.out).mono ?_
     (case side1 => exact Kd.R_V (Kd.R_tight rfl (Kd.R_types (Kd.R_types (Kd.R_types (jt.out) ja.out (by decide)) jb.out (by decide)) jd.out (by decide))))
     rintro e zc ⟨zv, rfl, ho0, hb⟩
     refine ⟨_, rfl, ?_⟩
     replace je := am (Kd.V_below je.out hb)
     replace jf := am (Kd.V_below jf.out hb)
     have jL := am (Kd.V_lower (Kd.V_mono (ok' := fun k_ => ((P0_1_ k_ ∨ P1_1_ k_) ∨ w.heap.size ≤ k_) ∧ k_ ≠ ji ∧ k_ ≠ jj ∧ k_ ≠ jc) ho0 (fun k_ hk_ => ⟨Or.elim hk_ (fun hs_ => (.inr (((Kd.R_types (Kd.R_types (Kd.R_types (jt.out) ja.out (by decide)) jb.out (by decide)) jd.out (by decide)).1 k_ hs_.symm).1.1.1.1))) (fun hn_ => (.inr (Nat.le_trans (below_size HB.out) hn_))), Or.elim hk_ (fun hs_ => ((Kd.R_types (Kd.R_types (Kd.R_types (jt.out) ja.out (by decide)) jb.out (by decide)) jd.out (by decide)).1 k_ hs_.symm).1.1.2) (fun hn_ => (Kd.freshB ja.out k_ hn_)), Or.elim hk_ (fun hs_ => ((Kd.R_types (Kd.R_types (Kd.R_types (jt.out) ja.out (by decide)) jb.out (by decide)) jd.out (by decide)).1 k_ hs_.symm).1.2) (fun hn_ => (Kd.freshB jb.out k_ hn_)), Or.elim hk_ (fun hs_ => ((Kd.R_types (Kd.R_types (Kd.R_types (jt.out) ja.out (by decide)) jb.out (by decide)) jd.out (by decide)).1 k_ hs_.symm).2) (fun hn_ => (Kd.freshB jd.out k_ hn_))⟩)) (below_size HB.out))
     replace jt := am (Kd.R_below jt.out hb)
     replace ja := am (blk_below ja.out hb)
     replace jb := am (blk_below jb.out hb)
     replace jd := am (blk_below jd.out hb)
     replace HB := am (below_step HB.out hb)
     try clear hb
     try clear ho0
     obtain ⟨jY, jZ, eo55⟩ := Kd.V_slice jL.out
     (subst eo55)
     refine hK.out _ _ ⟨(blk_cell ja.out 0).trans rfl, (blk_cell ja.out 1).trans rfl, (blk_cell jb.out 0).trans rfl, (blk_cell jb.out 1).trans rfl⟩ (fun hHeld => ?_)
     clear hK K
     refine norm_ (a' := ?_) ?_ ?_
     rotate_left
     ·
      show Act.put _ (some 39) _ = _
      simp only [Act.put, sI_, s0_, s1_, i64_w, i32_w]
      rfl
     refine one_ (i := 8) (N := none) #[true, true, true, true, true, true, true, true, true] rfl rfl (one_of HT_.out (by kernel_rfl)) (by decide) (fun K hK => ?_)
     have zw : zc.cell? ⟨jc, 0, none⟩ = some (.int .i64 0) := (blk_cell jd.out 0).trans rfl
     have hfs54 := blk_frozen jd.out 0
     have hns54_0 := jg.out
     have hns54_1 := jh.out
     have hms54_0 := jk.out
     have hms54_1 := jl.out
     have zx : zc.cell? ⟨jc, 1, none⟩ = some (.slice none 0 0) := (blk_cell jd.out 1).trans rfl
     have hfs56 := blk_frozen jd.out 1
     have hns56_0 := jg.out
     have hns56_1 := jh.out
     have hms56_0 := jk.out
     have hms56_1 := jl.out
     refine skip_ (w1 := ?_) (by rfl) rfl ?_ ?_
     rotate_left
     ·
      go_simp
      rfl
     refine hK.out _ _ ⟨((cell_far (p := ⟨jc, _, none⟩) jg.out _).trans (((cell_far (p := ⟨jc, _, none⟩) jg.out _).trans (hHeld.1)))), ((cell_far (p := ⟨jc, _, none⟩) jg.out _).trans (((cell_far (p := ⟨jc, _, none⟩) jg.out _).trans (hHeld.2.1)))), ((cell_far (p := ⟨jc, _, none⟩) jh.out _).trans (((cell_far (p := ⟨jc, _, none⟩) jh.out _).trans (hHeld.2.2.1)))), ((cell_far (p := ⟨jc, _, none⟩) jh.out _).trans (((cell_far (p := ⟨jc, _, none⟩) jh.out _).trans (hHeld.2.2.2))))⟩ (fun hHeld => ?_)
     clear hK K
     refine done_ (done_of HT_.out (by kernel_rfl)) ?_
     try go_wp2
     refine bodyPost_ret (results_cell_row rfl _ _ jc 33 #[.int .i64 jG, .slice jY jI.length jZ] (0, 0) _ rfl (by refine blk_put (cs := #[.int .i64 jG, .slice none 0 0]) ?_ 1 _ rfl; refine blk_put (cs := #[.int .i64 0, .slice none 0 0]) ?_ 0 _ rfl; exact jd.out) Try.underlying33 rfl (by kernel_rfl)) rfl ?_
     exact ⟨_, by rfl, by exact Kd.V_mono (Kd.V_far (p := ⟨jc, 1, none⟩) (Kd.V_far (p := ⟨jc, 0, none⟩) (Kd.V_mono jL.out (fun k_ hk => (⟨hk, hk.2.2.2⟩ : _ ∧ k_ ≠ jc))) (fun _ hk => hk.2) (.int .i64 jG)) (fun _ hk => hk.2) (.slice jY jI.length jZ)) (fun _ hk => hk.1.1), by repeat ((with_reducible first | exact HB.out | refine below_set ?_ js.out))⟩
    ·
     rw [if_neg jQ] at H
     have c39b0 : decide (0 ≤ jv) = false := decide_eq_false jQ
     clear jQ
     obtain ⟨jx, zy, H⟩ := bindE H
     obtain ⟨⟨jH, jJ⟩, zz, H⟩ := bindE H
     replace H : (some (jH, jJ)) = some (r1, r2) := H
     simp only [Option.some.injEq, Prod.mk.injEq] at H
     obtain ⟨rfl, rfl⟩ := H
     go_enter Try.func20, Try.ntmps20
     try go_wp2_with (first | ((with_reducible refine gate_dst (N := 2) rfl ?_); refine box_event ?hg (N := 2) ?hd (cs := #[.int .i64 a0_0, .slice jo l0_1.length jp]) (t := 33) ?hr ?_; (case hd => rfl); (case hg => rfl); (case hr => (go_simp; done)); intro ji hg zN hbox hb; replace je := am (Kd.V_below (Kd.V_elderB je.out ji (Nat.le_of_eq hg.symm)) hb); replace jf := am (Kd.V_below (Kd.V_elderB jf.out ji (Nat.le_of_eq hg.symm)) hb); have ja := am hbox; have jz := am (gel hg HB.out); have jA := am (gel hg HB.out); replace HB := am (below_step HB.out hb); clear hb hbox hg) | ((with_reducible refine gate_dst (N := 3) rfl ?_); refine box_event ?hg (N := 3) ?hd (cs := #[.int .i64 a1_0, .slice jq l1_1.length jr]) (t := 33) ?hr ?_; (case hd => rfl); (case hg => rfl); (case hr => (go_simp; done)); intro jj hg zO hbox hb; replace je := am (Kd.V_below (Kd.V_elderB je.out jj (Nat.le_of_eq hg.symm)) hb); replace jf := am (Kd.V_below (Kd.V_elderB jf.out jj (Nat.le_of_eq hg.symm)) hb); have jb := am hbox; have jB := am (gel hg HB.out); have jC := am (gel hg HB.out); replace HB := am (below_step HB.out hb); have jm := am (nel hg ja.out); have jn := am (ner hg ja.out); replace ja := am (blk_below ja.out hb); clear hb hbox hg) | ((with_reducible refine gate_dst (N := 4) rfl ?_); refine box_event ?hg (N := 4) ?hd (cs := #[.int .i64 0, .slice none 0 0]) (t := 33) ?hr ?_; (case hd => rfl); (case hg => rfl); (case hr => (go_simp; done)); intro jc hg jF hbox hb; replace je := am (Kd.V_below (Kd.V_elderB je.out jc (Nat.le_of_eq hg.symm)) hb); replace jf := am (Kd.V_below (Kd.V_elderB jf.out jc (Nat.le_of_eq hg.symm)) hb); have jd := am hbox; have jD := am (gel hg HB.out); have js := am (gel hg HB.out); replace HB := am (below_step HB.out hb); have jg := am (nel hg ja.out); have jk := am (ner hg ja.out); replace ja := am (blk_below ja.out hb); have jh := am (nel hg jb.out); have jl := am (ner hg jb.out); replace jb := am (blk_below jb.out hb); clear hb hbox hg; have zd := jm.out; have ze := jn.out; have zf := jg.out; have zg := jk.out; have qE : jF.cell? ⟨ji, 0, none⟩ = some (.int .i64 a0_0) := (blk_cell ja.out 0).trans rfl; have qF : jF.cell? ⟨ji, 1, none⟩ = some (.slice jo l0_1.length jp) := (blk_cell ja.out 1).trans rfl; have qG := blk_frozen ja.out 0; have qH := blk_frozen ja.out 1; have zh := jh.out; have zi := jl.out; have qI : jF.cell? ⟨jj, 0, none⟩ = some (.int .i64 a1_0) := (blk_cell jb.out 0).trans rfl; have qJ : jF.cell? ⟨jj, 1, none⟩ = some (.slice jq l1_1.length jr) := (blk_cell jb.out 1).trans rfl; have qK := blk_frozen jb.out 0; have qL := blk_frozen jb.out 1) | ((with_reducible refine gate_callee (f := 18) rfl ?_); refine goesL_ (some 30) rfl rfl Try.func18 (by kernel_rfl) rfl #[.slice jo l0_1.length jp, .slice jq l1_1.length jr] rfl (by (try simp only [List.map_toArray, List.map_cons, List.map_nil]); rfl) ?_; (with_reducible refine (zelligeref03_Cmp.calls k _ _ l0_1 _ _ l1_1 jv _ ?side1 ?side2 ?side3 ?side4 q5.out).mono ?_); (case side1 => exact (Kd.V_reads' je.out).2.2); (case side2 => exact (Kd.V_reads' je.out).2.1); (case side3 => exact (Kd.V_reads' jf.out).2.2); (case side4 => exact (Kd.V_reads' jf.out).2.1); rintro e w' ⟨rfl, ⟨nd, rfl⟩⟩; refine ⟨_, rfl, ?_⟩; (try (rw [drewN_self jF]; generalize hq_ : World.drewN jF _ = jF; have n0_ : Aside0 (Kd.V (Kd.int .i64) 3 jF w.heap.size (fun k_ => ((P0_1_ k_ ∨ P1_1_ k_) ∨ w.heap.size ≤ k_) ∧ k_ ≠ ji ∧ k_ ≠ jj ∧ k_ ≠ jc) (.slice jo l0_1.length jp) l0_1) := ⟨by rw [← hq_]; exact (by (with_reducible repeat (apply Kd.V_drewN)); exact Kd.V_mono je.out (fun _ hk => ⟨hk.1.1.1, ⟨hk.1.1.2, ⟨hk.1.2, hk.2⟩⟩⟩))⟩; have n1_ : Aside0 (Kd.V (Kd.int .i64) 3 jF w.heap.size (fun k_ => ((P0_1_ k_ ∨ P1_1_ k_) ∨ w.heap.size ≤ k_) ∧ k_ ≠ ji ∧ k_ ≠ jj ∧ k_ ≠ jc) (.slice jq l1_1.length jr) l1_1) := ⟨by rw [← hq_]; exact (by (with_reducible repeat (apply Kd.V_drewN)); exact Kd.V_mono jf.out (fun _ hk => ⟨hk.1.1.1, ⟨hk.1.1.2, ⟨hk.1.2, hk.2⟩⟩⟩))⟩; have n2_ : Aside0 (jF.heap[ji]? = some (.cells #[.int .i64 a0_0, .slice jo l0_1.length jp] 33 (0, 0))) := ⟨by rw [← hq_]; exact (by (with_reducible repeat (refine blk_drewN ?_ _)); exact ja.out)⟩; have n3_ : Aside0 (jF.heap[jj]? = some (.cells #[.int .i64 a1_0, .slice jq l1_1.length jr] 33 (0, 0))) := ⟨by rw [← hq_]; exact (by (with_reducible repeat (refine blk_drewN ?_ _)); exact jb.out)⟩; have n4_ : Aside0 (jF.heap[jc]? = some (.cells #[.int .i64 0, .slice none 0 0] 33 (0, 0))) := ⟨by rw [← hq_]; exact (by (with_reducible repeat (refine blk_drewN ?_ _)); exact jd.out)⟩; have n5_ : Aside0 (Below w.heap.size w jF) := ⟨by rw [← hq_]; exact (by repeat ((with_reducible first | exact HB.out | apply pw_below_drewN)))⟩; clear je jf ja jb jd HB hq_; have je := n0_; have jf := n1_; have ja := n2_; have jb := n3_; have jd := n4_; have HB := n5_; clear n0_ n1_ n2_ n3_ n4_ n5_))))
     replace je := am (Kd.V_drew je.out)
     replace jf := am (Kd.V_drew jf.out)
     replace ja := am (blk_drew ja.out)
     replace jb := am (blk_drew jb.out)
     replace jd := am (blk_drew jd.out)
     replace HB := am (below_drew1 HB.out)
     refine start_ (n := 9) (S := fun w' => w'.cell? ⟨jj, 0, none⟩ = some (.int .i64 a1_0) ∧ w'.cell? ⟨jj, 1, none⟩ = some (.slice jq l1_1.length jr) ∧ w'.cell? ⟨ji, 0, none⟩ = some (.int .i64 a0_0) ∧ w'.cell? ⟨ji, 1, none⟩ = some (.slice jo l0_1.length jp)) (ds := []) #[false, false, false, false, false, false, false, false, false] (by kernel_rfl) rfl rfl ⟨(blk_cell jb.out 0).trans rfl, (blk_cell jb.out 1).trans rfl, (blk_cell ja.out 0).trans rfl, (blk_cell ja.out 1).trans rfl⟩ (fun hHeld => ?_); refine with_tabW zelligeref04_Add.tab9 zelligeref04_Add.bits9 (fun HT_ HW_ => ?_)
     generalize jF.drew = zP at je jf ja jb jd HB hHeld ⊢
     refine pure_ (i := 0) (N := some 40) (v := ?_) (a' := ?_) #[true, false, false, false, false, false, false, false, false] rfl rfl (any_of HT_.out (by kernel_rfl)) (fun _ _ _ h => h) (Or.inl ⟨by rfl, ?_⟩) ?_ ?_
     rotate_left
     ·
      intro w'
      go_simp
      with_reducible rfl
     rotate_left
     ·
      simp only [Act.put, sI_, s0_, s1_, i64_w, i32_w]
      rfl
     refine pure_ (i := 2) (N := some 42) (v := ?_) (a' := ?_) #[true, false, true, false, false, false, false, false, false] rfl rfl (any_of HT_.out (by kernel_rfl)) (fun _ _ _ h => h) (Or.inl ⟨by rfl, ?_⟩) ?_ ?_
     rotate_left
     ·
      intro w'
      go_simp
      with_reducible rfl
     rotate_left
     ·
      simp only [Act.put, sI_, s0_, s1_, i64_w, i32_w]
      rfl
     refine pure_ (i := 4) (N := some 44) (v := ?_) (a' := ?_) #[true, false, true, false, true, false, false, false, false] rfl rfl (any_of HT_.out (by kernel_rfl)) (fun _ _ _ h => h) (Or.inl ⟨by rfl, ?_⟩) ?_ ?_
     rotate_left
     ·
      intro w'
      go_simp
      with_reducible rfl
     rotate_left
     ·
      simp only [Act.put, sI_, s0_, s1_, i64_w, i32_w]
      rfl
     refine take_ (i := 1) (N := some 41) (v := ?_) (a' := ?_) #[true, true, true, false, true, false, false, false, false] rfl rfl (take_ofW HT_.out HW_.out (by kernel_rfl)) (fun _ _ _ h => h) (Or.inl ⟨by rfl, ?_⟩) hHeld ?_ ?_
     rotate_left
     ·
      rintro w' ⟨s0, s1, s2, s3⟩
      go_simp
      with_reducible rfl
     rotate_left
     ·
      simp only [Act.put, sI_, s0_, s1_, i64_w, i32_w]
      rfl
     refine take_ (i := 3) (N := some 43) (v := ?_) (a' := ?_) #[true, true, true, true, true, false, false, false, false] rfl rfl (take_ofW HT_.out HW_.out (by kernel_rfl)) (fun _ _ _ h => h) (Or.inl ⟨by rfl, ?_⟩) hHeld ?_ ?_
     rotate_left
     ·
      rintro w' ⟨s0, s1, s2, s3⟩
      go_simp
      with_reducible rfl
     rotate_left
     ·
      simp only [Act.put, sI_, s0_, s1_, i64_w, i32_w]
      rfl
     refine take_ (i := 5) (N := some 45) (v := ?_) (a' := ?_) #[true, true, true, true, true, true, false, false, false] rfl rfl (take_ofW HT_.out HW_.out (by kernel_rfl)) (fun _ _ _ h => h) (Or.inl ⟨by rfl, ?_⟩) hHeld ?_ ?_
     rotate_left
     ·
      rintro w' ⟨s0, s1, s2, s3⟩
      go_simp
      with_reducible rfl
     rotate_left
     ·
      simp only [Act.put, sI_, s0_, s1_, i64_w, i32_w]
      rfl
     refine one_ (i := 6) (N := some 46) #[true, true, true, true, true, true, true, false, false] rfl rfl (one_of HT_.out (by kernel_rfl)) (by decide) (fun K hK => ?_)
     refine goes_ Try.func54 (by kernel_rfl) rfl #[.slice jq l1_1.length jr, .slice jo l0_1.length jp] (by rfl) rfl rfl (by (try simp only [List.map_toArray, List.map_cons, List.map_nil]); rfl) ?_
     with_reducible refine (zelligeref03_Sub.calls k _ _ l1_1 _ _ l0_1 jx _ ?side1 ?side2 ?side3 ?side4 zy.out).mono ?_
     (case side1 => exact (Kd.V_reads' jf.out).2.2)
     (case side2 => exact (Kd.V_reads' jf.out).2.1)
     (case side3 => exact (Kd.V_reads' je.out).2.2)
     (case side4 => exact (Kd.V_reads' je.out).2.1)
     rintro e zQ ⟨zA, rfl, ho0, hb⟩
     refine ⟨_, rfl, ?_⟩
     replace je := am (Kd.V_elder' je.out (Kd.R_base ho0) hb)
     replace jf := am (Kd.V_elder' jf.out (Kd.R_base ho0) hb)
     have ju := am (Kd.R_lower (Kd.R_newM (M := fun k_ => (w.heap.size ≤ k_)) ho0 (below_size HB.out) (fun k_ h_ => h_)) (below_size HB.out))
     replace ja := am (blk_below ja.out hb)
     replace jb := am (blk_below jb.out hb)
     replace jd := am (blk_below jd.out hb)
     replace HB := am (below_step HB.out hb)
     try clear hb
     try clear ho0
     obtain ⟨j0, j1, eo69⟩ := Kd.R_slice ju.out
     (subst eo69)
     refine hK.out _ _ ⟨(blk_cell jb.out 0).trans rfl, (blk_cell jb.out 1).trans rfl, (blk_cell ja.out 0).trans rfl, (blk_cell ja.out 1).trans rfl⟩ (fun hHeld => ?_)
     clear hK K
     refine norm_ (a' := ?_) ?_ ?_
     rotate_left
     ·
      show Act.put _ (some 46) _ = _
      simp only [Act.put, sI_, s0_, s1_, i64_w, i32_w]
      rfl
     refine one_ (i := 7) (N := some 47) #[true, true, true, true, true, true, true, true, false] rfl rfl (one_of HT_.out (by kernel_rfl)) (by decide) (fun K hK => ?_)
     refine goes_ Try.func51 (by kernel_rfl) rfl #[.int .i64 a1_0, .slice j0 jx.length j1] (by rfl) rfl rfl (by (try simp only [List.map_toArray, List.map_cons, List.map_nil]); rfl) ?_
     with_reducible refine (zelligeref04_make1.calls a1_0 (fun k_ => some k_ = (.slice j0 jx.length j1 : Value).ownBlock) _ _ jx jH jJ _ ?side1 zz.out).mono ?_
     (case side1 => exact Kd.R_V (Kd.R_tight rfl (Kd.R_types (Kd.R_types (Kd.R_types (ju.out) ja.out (by decide)) jb.out (by decide)) jd.out (by decide))))
     rintro e zj ⟨zB, rfl, ho0, hb⟩
     refine ⟨_, rfl, ?_⟩
     replace je := am (Kd.V_below je.out hb)
     replace jf := am (Kd.V_below jf.out hb)
     have jM := am (Kd.V_lower (Kd.V_mono (ok' := fun k_ => ((P0_1_ k_ ∨ P1_1_ k_) ∨ w.heap.size ≤ k_) ∧ k_ ≠ ji ∧ k_ ≠ jj ∧ k_ ≠ jc) ho0 (fun k_ hk_ => ⟨Or.elim hk_ (fun hs_ => (.inr (((Kd.R_types (Kd.R_types (Kd.R_types (ju.out) ja.out (by decide)) jb.out (by decide)) jd.out (by decide)).1 k_ hs_.symm).1.1.1.1))) (fun hn_ => (.inr (Nat.le_trans (below_size HB.out) hn_))), Or.elim hk_ (fun hs_ => ((Kd.R_types (Kd.R_types (Kd.R_types (ju.out) ja.out (by decide)) jb.out (by decide)) jd.out (by decide)).1 k_ hs_.symm).1.1.2) (fun hn_ => (Kd.freshB ja.out k_ hn_)), Or.elim hk_ (fun hs_ => ((Kd.R_types (Kd.R_types (Kd.R_types (ju.out) ja.out (by decide)) jb.out (by decide)) jd.out (by decide)).1 k_ hs_.symm).1.2) (fun hn_ => (Kd.freshB jb.out k_ hn_)), Or.elim hk_ (fun hs_ => ((Kd.R_types (Kd.R_types (Kd.R_types (ju.out) ja.out (by decide)) jb.out (by decide)) jd.out (by decide)).1 k_ hs_.symm).2) (fun hn_ => (Kd.freshB jd.out k_ hn_))⟩)) (below_size HB.out))
     replace ju := am (Kd.R_below ju.out hb)
     replace ja := am (blk_below ja.out hb)
     replace jb := am (blk_below jb.out hb)
     replace jd := am (blk_below jd.out hb)
     replace HB := am (below_step HB.out hb)
     try clear hb
     try clear ho0
     obtain ⟨j2, j3, eo72⟩ := Kd.V_slice jM.out
     (subst eo72)
     refine hK.out _ _ ⟨(blk_cell jb.out 0).trans rfl, (blk_cell jb.out 1).trans rfl, (blk_cell ja.out 0).trans rfl, (blk_cell ja.out 1).trans rfl⟩ (fun hHeld => ?_)
     clear hK K
     refine norm_ (a' := ?_) ?_ ?_
     rotate_left
     ·
      show Act.put _ (some 47) _ = _
      simp only [Act.put, sI_, s0_, s1_, i64_w, i32_w]
      rfl
     refine one_ (i := 8) (N := none) #[true, true, true, true, true, true, true, true, true] rfl rfl (one_of HT_.out (by kernel_rfl)) (by decide) (fun K hK => ?_)
     have zC : zj.cell? ⟨jc, 0, none⟩ = some (.int .i64 0) := (blk_cell jd.out 0).trans rfl
     have hfs71 := blk_frozen jd.out 0
     have hns71_0 := jg.out
     have hns71_1 := jh.out
     have hms71_0 := jk.out
     have hms71_1 := jl.out
     have zD : zj.cell? ⟨jc, 1, none⟩ = some (.slice none 0 0) := (blk_cell jd.out 1).trans rfl
     have hfs73 := blk_frozen jd.out 1
     have hns73_0 := jg.out
     have hns73_1 := jh.out
     have hms73_0 := jk.out
     have hms73_1 := jl.out
     refine skip_ (w1 := ?_) (by rfl) rfl ?_ ?_
     rotate_left
     ·
      go_simp
      rfl
     refine hK.out _ _ ⟨((cell_far (p := ⟨jc, _, none⟩) jh.out _).trans (((cell_far (p := ⟨jc, _, none⟩) jh.out _).trans (hHeld.1)))), ((cell_far (p := ⟨jc, _, none⟩) jh.out _).trans (((cell_far (p := ⟨jc, _, none⟩) jh.out _).trans (hHeld.2.1)))), ((cell_far (p := ⟨jc, _, none⟩) jg.out _).trans (((cell_far (p := ⟨jc, _, none⟩) jg.out _).trans (hHeld.2.2.1)))), ((cell_far (p := ⟨jc, _, none⟩) jg.out _).trans (((cell_far (p := ⟨jc, _, none⟩) jg.out _).trans (hHeld.2.2.2))))⟩ (fun hHeld => ?_)
     clear hK K
     refine done_ (done_of HT_.out (by kernel_rfl)) ?_
     try go_wp2
     refine bodyPost_ret (results_cell_row rfl _ _ jc 33 #[.int .i64 jH, .slice j2 jJ.length j3] (0, 0) _ rfl (by refine blk_put (cs := #[.int .i64 jH, .slice none 0 0]) ?_ 1 _ rfl; refine blk_put (cs := #[.int .i64 0, .slice none 0 0]) ?_ 0 _ rfl; exact jd.out) Try.underlying33 rfl (by kernel_rfl)) rfl ?_
     exact ⟨_, by rfl, by exact Kd.V_mono (Kd.V_far (p := ⟨jc, 1, none⟩) (Kd.V_far (p := ⟨jc, 0, none⟩) (Kd.V_mono jM.out (fun k_ hk => (⟨hk, hk.2.2.2⟩ : _ ∧ k_ ≠ jc))) (fun _ hk => hk.2) (.int .i64 jH)) (fun _ hk => hk.2) (.slice j2 jJ.length j3)) (fun _ hk => hk.1.1), by repeat ((with_reducible first | exact HB.out | refine below_set ?_ js.out))⟩

end Go.Proofs.Ytmfmojldebhboaa.ZWhole
