-- printed by zprint.py, a program of this session's
import Derived.Test.YtmfmojldebhboaaZWhole0
import Derived.Test.YtmfmojldebhboaaZWholegQOf
import Derived.Test.YtmfmojldebhboaaZWholegQSub
import Derived.Test.YtmfmojldebhboaaZWholegRDivMod
namespace Go.Proofs.Ytmfmojldebhboaa.ZWhole
open Go.RowKit Go.Proofs.YtmfmojldebhboaaW.PrintWords Go.Proofs.YtmfmojldebhboaaW.PrintLast Go.Proofs.YtmfmojldebhboaaW.PrintMore
set_option linter.unusedVariables false
set_option linter.unusedSimpArgs false

/-! ### zelligeref04_Floor: function 16 -/
def zelligeref04_Floor.j0 : Nat → Bool → Int → List Int → Int → List Int → Int → List Int → Option (Int × List Int × Int × List Int)
 | 0, _, _, _, _, _, _, _ => none
 | k + 1, ue, j4, j5, j6, j7, j1, j2 => if ue = true then ((zelligeref04_Long.f k 1).bind fun bt647 => ((zelligeref04_Sub.f k j1 j2 bt647.1 bt647.2).bind fun bt651 => ((zelligeref04_Mul.f k bt651.1 bt651.2 j6 j7).bind fun bt655 => ((zelligeref04_Sub.f k j4 j5 bt655.1 bt655.2).bind fun bt659 => (some (bt651.1, bt651.2, bt659.1, bt659.2)))))) else ((zelligeref04_Mul.f k j1 j2 j6 j7).bind fun bt663 => ((zelligeref04_Sub.f k j4 j5 bt663.1 bt663.2).bind fun bt667 => (some (j1, j2, bt667.1, bt667.2))))
def zelligeref04_Floor.f (k : Nat) (a0_0 : Int) (l0_1 : List Int) (a1_0 : Int) (l1_1 : List Int) : Option (Int × List Int × Int × List Int) := (zelligeref03_DivMod.f k l0_1 l1_1).bind fun bt636 => ((zelligeref04_make1.f (wrap64 (a0_0 * a1_0)) bt636.1).bind fun bt642 => (if (wrap64 (a0_0 * a1_0)) < 0 then (zelligeref04_Floor.j0 k (decide ((bt636.2.length : Int) > 0)) a0_0 l0_1 a1_0 l1_1 bt642.1 bt642.2) else (zelligeref04_Floor.j0 k false a0_0 l0_1 a1_0 l1_1 bt642.1 bt642.2)))
theorem zelligeref04_Floor.mono_l : ∀ k, (∀ y0 y1 y2 y3 y4 y5 y6, LeO (zelligeref04_Floor.j0 k y0 y1 y2 y3 y4 y5 y6) (zelligeref04_Floor.j0 (k + 1) y0 y1 y2 y3 y4 y5 y6))
 | 0 => fun _ _ _ _ _ _ _ r h => by simp [zelligeref04_Floor.j0] at h
 | k + 1 => by
  have ih0 := zelligeref04_Floor.mono_l k
  ·
   intro y0 y1 y2 y3 y4 y5 y6
   unfold zelligeref04_Floor.j0
   repeat' first
   | (with_reducible exact zelligeref04_Long.mono _ _)
   | (with_reducible exact zelligeref04_Mul.mono _ _ _ _ _)
   | (with_reducible exact zelligeref04_Sub.mono _ _ _ _ _)
   | (with_reducible exact LeO.refl _)
   | (with_reducible refine LeO.ite ?_ ?_)
   | (with_reducible refine LeO.bind ?_ (fun _ => ?_))
theorem zelligeref04_Floor.mono : ∀ a0 a1 a2 a3 k, LeO (zelligeref04_Floor.f k a0 a1 a2 a3) (zelligeref04_Floor.f (k + 1) a0 a1 a2 a3) := by
 intro a0 a1 a2 a3 k
 have ih0 := zelligeref04_Floor.mono_l k
 unfold zelligeref04_Floor.f
 repeat' first
   | (with_reducible exact ih0 _ _ _ _ _ _ _)
   | (with_reducible exact zelligeref03_DivMod.mono _ _ _)
   | (with_reducible exact LeO.refl _)
   | (with_reducible refine LeO.ite ?_ ?_)
   | (with_reducible refine LeO.bind ?_ (fun _ => ?_))
def zelligeref04_Floor.T5 : Bool × List (List Nat × List Nat) := (true, [([], []), ([], []), ([], []), ([], []), ([2, 3], [2, 3]), ([1, 4, 4], [1, 4]), ([0, 5, 0], [0]), ([5, 6, 0, 1, 2, 3, 4, 5, 6], [5])])
def zelligeref04_Floor.B5 : List Nat := [0, 0, 0, 0, 12, 30, 63, 127]
theorem zelligeref04_Floor.tab5 : rtab .any (opsOf Try.f16 5) = zelligeref04_Floor.T5 := by kernel_rfl
theorem zelligeref04_Floor.bits5 : waitsOk zelligeref04_Floor.T5.2 zelligeref04_Floor.B5 = true := by kernel_rfl
set_option maxHeartbeats 8000000 in
set_option maxRecDepth 100000 in
theorem zelligeref04_Floor.calls (k : Nat) (a0_0 : Int) (P0_1_ : Nat → Prop) (jN : Option Addr) (jO : Nat) (l0_1 : List Int) (a1_0 : Int) (jR : Option Addr) (jS : Nat) (l1_1 : List Int) (r1 : Int) (r2 : List Int) (r3 : Int) (r4 : List Int) (w : World) (qT : Kd.V (Kd.int .i64) 3 w w.heap.size (fun k_ => P0_1_ k_) (.slice jN l0_1.length jO) l0_1) (hr1_1 : Kd.C (Kd.int .i64) w jR l1_1.length l1_1) (hc1_1 : l1_1.length ≤ jS) (h : zelligeref04_Floor.f k a0_0 l0_1 a1_0 l1_1 = some (r1, r2, r3, r4)) :
  Calls Try.prog 16 #[.agg #[.int .i64 a0_0, .slice jN l0_1.length jO], .agg #[.int .i64 a1_0, .slice jR l1_1.length jS]] w fun e w' => ∃ v1_ v3_ : Value, e = .returned (.tuple #[.agg #[.int .i64 r1, v1_], .agg #[.int .i64 r3, v3_]]) ∧ Kd.V (Kd.int .i64) 3 w' w.heap.size (fun k_ => (P0_1_ k_ ∨ w.heap.size ≤ k_)) v1_ r2 ∧ Kd.V (Kd.int .i64) 3 w' w.heap.size (fun k_ => (P0_1_ k_ ∨ w.heap.size ≤ k_)) v3_ r4 ∧ Below w.heap.size w w' := by
 have hu33 := Try.underlying33
 have jy := am (show Kd.V (Kd.int .i64) 3 w w.heap.size (fun k_ => (P0_1_ k_ ∨ w.heap.size ≤ k_)) (.slice jN l0_1.length jO) l0_1 from Kd.V_mono qT (fun k_ hk => .inl hk))
 have qe := am hr1_1
 have qf := am hc1_1
 clear hr1_1 hc1_1
 have HB := am (Below.refl w.heap.size w)
 have H : ((zelligeref03_DivMod.f k l0_1 l1_1).bind fun bt636 => ((zelligeref04_make1.f (wrap64 (a0_0 * a1_0)) bt636.1).bind fun bt642 => (if (wrap64 (a0_0 * a1_0)) < 0 then (zelligeref04_Floor.j0 k (decide ((bt636.2.length : Int) > 0)) a0_0 l0_1 a1_0 l1_1 bt642.1 bt642.2) else (zelligeref04_Floor.j0 k false a0_0 l0_1 a1_0 l1_1 bt642.1 bt642.2)))) = some (r1, r2, r3, r4) := h
 clear h
 obtain ⟨⟨qk, qU⟩, A3, H⟩ := bindE H
 dsimp only at H
 obtain ⟨⟨jH, jG⟩, A4, H⟩ := bindE H
 dsimp only at H
 have zh := am H
 clear H
 go_enter Try.func16, Try.ntmps16
 go_upto_region 3 with (first | ((with_reducible refine gate_dst (N := 2) rfl ?_); (try (refine gate_guard (by rfl) ?_; dsimp only)); refine box_event ?hg (N := 2) ?hd (cs := #[.int .i64 a0_0, .slice jN l0_1.length jO]) (t := 33) ?hr ?_; (case hd => rfl); (case hg => rfl); (case hr => (go_simp; done)); intro js hg w6 hbox hb; replace jy := am (Kd.V_below (Kd.V_elderB jy.out js (Nat.le_of_eq hg.symm)) hb); have ja := am hbox; have zn := am (gel hg HB.out); have zo := am (gel hg HB.out); replace HB := am (below_step HB.out hb); clear hb hbox hg) | ((with_reducible refine gate_dst (N := 3) rfl ?_); (try (refine gate_guard (by rfl) ?_; dsimp only)); refine box_event ?hg (N := 3) ?hd (cs := #[.int .i64 a1_0, .slice jR l1_1.length jS]) (t := 33) ?hr ?_; (case hd => rfl); (case hg => rfl); (case hr => (go_simp; done)); intro jt hg w7 hbox hb; replace jy := am (Kd.V_below (Kd.V_elderB jy.out jt (Nat.le_of_eq hg.symm)) hb); have jb := am hbox; have zp := am (gel hg HB.out); have zq := am (gel hg HB.out); replace HB := am (below_step HB.out hb); have jT := am (nel hg ja.out); have jU := am (ner hg ja.out); replace ja := am (blk_below ja.out hb); clear hb hbox hg) | ((with_reducible refine gate_dst (N := 4) rfl ?_); (try (refine gate_guard (by rfl) ?_; dsimp only)); refine box_event ?hg (N := 4) ?hd (cs := #[.int .i64 0, .slice none 0 0]) (t := 33) ?hr ?_; (case hd => rfl); (case hg => rfl); (case hr => (go_simp; done)); intro jf hg w8 hbox hb; replace jy := am (Kd.V_below (Kd.V_elderB jy.out jf (Nat.le_of_eq hg.symm)) hb); have ji := am hbox; have zr := am (gel hg HB.out); have qF := am (gel hg HB.out); replace HB := am (below_step HB.out hb); have jk := am (nel hg ja.out); have jz := am (ner hg ja.out); replace ja := am (blk_below ja.out hb); have jl := am (nel hg jb.out); have jA := am (ner hg jb.out); replace jb := am (blk_below jb.out hb); clear hb hbox hg) | ((with_reducible refine gate_dst (N := 5) rfl ?_); (try (refine gate_guard (by rfl) ?_; dsimp only)); refine box_event ?hg (N := 5) ?hd (cs := #[.int .i64 0, .slice none 0 0]) (t := 33) ?hr ?_; (case hd => rfl); (case hg => rfl); (case hr => (go_simp; done)); intro jg hg w9 hbox hb; replace jy := am (Kd.V_below (Kd.V_elderB jy.out jg (Nat.le_of_eq hg.symm)) hb); have jj := am hbox; have zs := am (gel hg HB.out); have qG := am (gel hg HB.out); replace HB := am (below_step HB.out hb); have jm := am (nel hg ja.out); have jB := am (ner hg ja.out); replace ja := am (blk_below ja.out hb); have jn := am (nel hg jb.out); have jC := am (ner hg jb.out); replace jb := am (blk_below jb.out hb); have ju := am (nel hg ji.out); have jv := am (ner hg ji.out); replace ji := am (blk_below ji.out hb); clear hb hbox hg; have zt := jT.out; have zu := jU.out; have zv := jk.out; have zw := jz.out; have zx := jm.out; have zy := jB.out; have ql : w9.cell? ⟨js, 0, none⟩ = some (.int .i64 a0_0) := (blk_cell ja.out 0).trans rfl; have qm : w9.cell? ⟨js, 1, none⟩ = some (.slice jN l0_1.length jO) := (blk_cell ja.out 1).trans rfl; have qn := blk_frozen ja.out 0; have qo := blk_frozen ja.out 1; have zz := jl.out; have zA := jA.out; have zB := jn.out; have zC := jC.out; have qp : w9.cell? ⟨jt, 0, none⟩ = some (.int .i64 a1_0) := (blk_cell jb.out 0).trans rfl; have qq : w9.cell? ⟨jt, 1, none⟩ = some (.slice jR l1_1.length jS) := (blk_cell jb.out 1).trans rfl; have qr := blk_frozen jb.out 0; have qs := blk_frozen jb.out 1) | ((with_reducible refine gate_callee (f := 50) rfl ?_); refine goesL_ (some 14) rfl rfl Try.func50 (by kernel_rfl) rfl #[.slice jN l0_1.length jO, .slice jR l1_1.length jS] rfl (by (try simp only [List.map_toArray, List.map_cons, List.map_nil]); rfl) ?_; (with_reducible refine (zelligeref03_DivMod.calls k _ _ l0_1 _ _ l1_1 qk qU _ ?side1 ?side2 ?side3 ?side4 A3.out).mono ?_); (case side1 => exact (Kd.V_reads' jy.out).2.2); (case side2 => exact (Kd.V_reads' jy.out).2.1); (case side3 => repeat (exact (Kd.C_below qe.out HB.out))); (case side4 => exact qf.out); rintro e qX ⟨uf, zi, rfl, ho0, ho1, hb⟩; refine ⟨_, rfl, ?_⟩; replace jy := am (Kd.V_mono (Kd.V_told (Kd.V_told (Kd.V_old jy.out hb) (Kd.R_base ho0)) (Kd.R_base ho1)) (fun _ h_ => h_.1)); have jW := am (Kd.R_lower (Kd.R_newM (M := fun k_ => (w.heap.size ≤ k_)) ho0 (below_size HB.out) (fun k_ h_ => h_)) (below_size HB.out)); have jZ := am (Kd.R_lower (Kd.R_newM (M := fun k_ => (w.heap.size ≤ k_)) ho1 (below_size HB.out) (fun k_ h_ => h_)) (below_size HB.out)); replace ja := am (blk_below ja.out hb); replace jb := am (blk_below jb.out hb); replace ji := am (blk_below ji.out hb); replace jj := am (blk_below jj.out hb); replace HB := am (below_step HB.out hb); (try clear hb); (try clear ho0); (try clear ho1); have qt : qX.cell? ⟨js, 0, none⟩ = some (.int .i64 a0_0) := (blk_cell ja.out 0).trans rfl; have qu : qX.cell? ⟨js, 1, none⟩ = some (.slice jN l0_1.length jO) := (blk_cell ja.out 1).trans rfl; have qv := blk_frozen ja.out 0; have qw := blk_frozen ja.out 1; have qx : qX.cell? ⟨jt, 0, none⟩ = some (.int .i64 a1_0) := (blk_cell jb.out 0).trans rfl; have qy : qX.cell? ⟨jt, 1, none⟩ = some (.slice jR l1_1.length jS) := (blk_cell jb.out 1).trans rfl; have qz := blk_frozen jb.out 0; have qA := blk_frozen jb.out 1; obtain ⟨qV, qW, eo20⟩ := Kd.R_slice jW.out; subst eo20) | ((with_reducible refine gate_callee (f := 51) rfl ?_); refine goesL_ (some 23) rfl rfl Try.func51 (by kernel_rfl) rfl #[.int .i64 (wrap64 (a0_0 * a1_0)), .slice qV qk.length qW] rfl (by (try simp only [List.map_toArray, List.map_cons, List.map_nil]); rfl) ?_; (with_reducible refine (zelligeref04_make1.calls (wrap64 (a0_0 * a1_0)) (fun k_ => some k_ = (.slice qV qk.length qW : Value).ownBlock) _ _ qk jH jG _ ?side1 A4.out).mono ?_); (case side1 => exact Kd.R_V (Kd.R_tight rfl (Kd.R_types (Kd.R_types (Kd.R_types (Kd.R_types (jW.out) ja.out (by decide)) jb.out (by decide)) ji.out (by decide)) jj.out (by decide)))); rintro e uH ⟨ug, rfl, ho0, hb⟩; refine ⟨_, rfl, ?_⟩; replace jy := am (Kd.V_below jy.out hb); have Z0_ := (Kd.R_types (Kd.R_types (Kd.R_types (Kd.R_types (jW.out) ja.out (by decide)) jb.out (by decide)) ji.out (by decide)) jj.out (by decide)); have j3 := am (Kd.V_lower (Kd.V_mono (ok' := fun k_ => (P0_1_ k_ ∨ w.heap.size ≤ k_) ∧ some k_ ≠ (zi : Value).ownBlock ∧ k_ ≠ js ∧ k_ ≠ jt ∧ k_ ≠ jf ∧ k_ ≠ jg) ho0 (fun k_ hk_ => ⟨Or.elim hk_ (fun hs_ => (.inr ((Z0_.1 k_ hs_.symm).1.1.1.1.1))) (fun hn_ => (.inr (Nat.le_trans (below_size HB.out) hn_))), Or.elim hk_ (fun hs_ => (Z0_.1 k_ hs_.symm).1.1.1.1.2) (fun hn_ => (Kd.fresh' (Kd.R_lt jZ.out) k_ hn_)), Or.elim hk_ (fun hs_ => (Z0_.1 k_ hs_.symm).1.1.1.2) (fun hn_ => (Kd.freshB ja.out k_ hn_)), Or.elim hk_ (fun hs_ => (Z0_.1 k_ hs_.symm).1.1.2) (fun hn_ => (Kd.freshB jb.out k_ hn_)), Or.elim hk_ (fun hs_ => (Z0_.1 k_ hs_.symm).1.2) (fun hn_ => (Kd.freshB ji.out k_ hn_)), Or.elim hk_ (fun hs_ => (Z0_.1 k_ hs_.symm).2) (fun hn_ => (Kd.freshB jj.out k_ hn_))⟩)) (below_size HB.out)); clear Z0_; replace jW := am (Kd.R_below jW.out hb); replace jZ := am (Kd.R_below jZ.out hb); replace ja := am (blk_below ja.out hb); replace jb := am (blk_below jb.out hb); replace ji := am (blk_below ji.out hb); replace jj := am (blk_below jj.out hb); replace HB := am (below_step HB.out hb); (try clear hb); (try clear ho0)) | ((with_reducible refine gate_dst (N := 8) rfl ?_); (try (refine gate_guard (by rfl) ?_; dsimp only)); refine box_event ?hg (N := 8) ?hd (cs := #[.int .i64 0, .slice none 0 0]) (t := 33) ?hr ?_; (case hd => rfl); (case hg => rfl); (case hr => (go_simp; done)); intro jc hg qj hbox hb; replace jy := am (Kd.V_below (Kd.V_elderB jy.out jc (Nat.le_of_eq hg.symm)) hb); replace jW := am (Kd.R_below jW.out hb); replace jZ := am (Kd.R_below jZ.out hb); replace j3 := am (Kd.V_below (Kd.V_elderB j3.out jc (Nat.le_of_eq hg.symm)) hb); have jh := am hbox; have zD := am (gel hg HB.out); have qg := am (gel hg HB.out); replace HB := am (below_step HB.out hb); have jw := am (nel hg ja.out); have jL := am (ner hg ja.out); replace ja := am (blk_below ja.out hb); have jx := am (nel hg jb.out); have jM := am (ner hg jb.out); replace jb := am (blk_below jb.out hb); have jq := am (nel hg ji.out); have jo := am (ner hg ji.out); replace ji := am (blk_below ji.out hb); have jr := am (nel hg jj.out); have jp := am (ner hg jj.out); replace jj := am (blk_below jj.out hb); clear hb hbox hg; have zE := jL.out; have zF := jw.out; have zG := jM.out; have zH := jx.out; have zI := jo.out; have zJ := jq.out; have zK := jp.out; have zL := jr.out; have qB : qj.cell? ⟨jc, 0, none⟩ = some (.int .i64 0) := (blk_cell jh.out 0).trans rfl; have qC : qj.cell? ⟨jc, 1, none⟩ = some (.slice none 0 0) := (blk_cell jh.out 1).trans rfl; have qD := blk_frozen jh.out 0; have qE := blk_frozen jh.out 1; obtain ⟨jP, jQ, eo28⟩ := Kd.V_slice j3.out; subst eo28))
 go_cut [34] (fun uh wc => ∃ (kq : Nat) (j8 : Bool), uh = .bool j8 ∧ Aside0 (zelligeref04_Floor.j0 kq j8 a0_0 l0_1 a1_0 l1_1 jH jG = some (r1, r2, r3, r4)) ∧ Aside0 (kq ≤ k) ∧ Aside0 (Kd.V (Kd.int .i64) 3 wc w.heap.size (fun k_ => (P0_1_ k_ ∨ w.heap.size ≤ k_) ∧ k_ ≠ js ∧ k_ ≠ jt ∧ k_ ≠ jf ∧ k_ ≠ jg ∧ k_ ≠ jc) (.slice jN l0_1.length jO) l0_1) ∧ Aside0 (Kd.V (Kd.int .i64) 3 wc w.heap.size (fun k_ => (P0_1_ k_ ∨ w.heap.size ≤ k_) ∧ k_ ≠ js ∧ k_ ≠ jt ∧ k_ ≠ jf ∧ k_ ≠ jg ∧ k_ ≠ jc) (.slice jP jG.length jQ) jG) ∧ Aside0 (wc.heap[js]? = some (.cells #[.int .i64 a0_0, (.slice jN l0_1.length jO)] 33 (0, 0))) ∧ Aside0 (wc.heap[jt]? = some (.cells #[.int .i64 a1_0, (.slice jR l1_1.length jS)] 33 (0, 0))) ∧ Aside0 (wc.heap[jf]? = some (.cells #[.int .i64 0, (.slice none 0 0)] 33 (0, 0))) ∧ Aside0 (wc.heap[jg]? = some (.cells #[.int .i64 0, (.slice none 0 0)] 33 (0, 0))) ∧ Aside0 (wc.heap[jc]? = some (.cells #[.int .i64 jH, (.slice jP jG.length jQ)] 33 (0, 0))) ∧ Aside0 (Below w.heap.size w wc))
 case first =>
  have H := zh.out
  clear zh
  by_cases qS : (wrap64 (a0_0 * a1_0)) < 0
  ·
   rw [if_pos qS] at H
   have c29b0 : decide ((wrap64 (a0_0 * a1_0)) < 0) = true := decide_eq_true qS
   clear qS
   (skip)
   have H' := am H
   clear H
   have zM := jT.out
   have zN := jU.out
   have zO := jk.out
   have zP := jz.out
   have zQ := jm.out
   have zR := jB.out
   have zS := jw.out
   have zT := jL.out
   have qY : qj.cell? ⟨js, 0, none⟩ = some (.int .i64 a0_0) := (blk_cell ja.out 0).trans rfl
   have qZ : qj.cell? ⟨js, 1, none⟩ = some (.slice jN l0_1.length jO) := (blk_cell ja.out 1).trans rfl
   have q0 := blk_frozen ja.out 0
   have q1 := blk_frozen ja.out 1
   have zU := jl.out
   have zV := jA.out
   have zW := jn.out
   have zX := jC.out
   have zY := jx.out
   have zZ := jM.out
   have q2 : qj.cell? ⟨jt, 0, none⟩ = some (.int .i64 a1_0) := (blk_cell jb.out 0).trans rfl
   have q3 : qj.cell? ⟨jt, 1, none⟩ = some (.slice jR l1_1.length jS) := (blk_cell jb.out 1).trans rfl
   have q4 := blk_frozen jb.out 0
   have q5 := blk_frozen jb.out 1
   obtain ⟨ui, uj, eo39⟩ := Kd.R_slice jZ.out
   subst eo39
   go_wp2
   go_meet
   case rel => exact ⟨_, (decide ((qU.length : Int) > 0)), (by (simp; done)), H', ⟨by omega⟩, ⟨by exact Kd.V_mono (Kd.V_far (p := ⟨jc, 1, none⟩) (Kd.V_far (p := ⟨jc, 0, none⟩) (Kd.V_mono jy.out (fun k_ hk => (⟨hk, hk.2⟩ : _ ∧ k_ ≠ jc))) (fun _ hk => hk.2) (.int .i64 jH)) (fun _ hk => hk.2) (.slice jP jG.length jQ)) (fun _ hk => ⟨hk.1.1.1.1.1.1.1.1, ⟨hk.1.1.1.1.1.1.1.2, ⟨hk.1.1.1.1.1.1.2, ⟨hk.1.1.1.1.1.2, ⟨hk.1.1.1.1.2, hk.1.2⟩⟩⟩⟩⟩)⟩, ⟨by exact Kd.V_mono (Kd.V_far (p := ⟨jc, 1, none⟩) (Kd.V_far (p := ⟨jc, 0, none⟩) (Kd.V_mono j3.out (fun k_ hk => (⟨hk, hk.2⟩ : _ ∧ k_ ≠ jc))) (fun _ hk => hk.2) (.int .i64 jH)) (fun _ hk => hk.2) (.slice jP jG.length jQ)) (fun _ hk => ⟨hk.1.1.1, ⟨hk.1.1.2.2.1, ⟨hk.1.1.2.2.2.1, ⟨hk.1.1.2.2.2.2.1, ⟨hk.1.1.2.2.2.2.2, hk.1.2⟩⟩⟩⟩⟩)⟩, ⟨by refine blk_far ?_ jw.out _; refine blk_far ?_ jw.out _; exact ja.out⟩, ⟨by refine blk_far ?_ jx.out _; refine blk_far ?_ jx.out _; exact jb.out⟩, ⟨by refine blk_far ?_ jq.out _; refine blk_far ?_ jq.out _; exact ji.out⟩, ⟨by refine blk_far ?_ jr.out _; refine blk_far ?_ jr.out _; exact jj.out⟩, ⟨by refine blk_put (cs := #[.int .i64 jH, .slice none 0 0]) ?_ 1 _ rfl; refine blk_put (cs := #[.int .i64 0, .slice none 0 0]) ?_ 0 _ rfl; exact jh.out⟩, ⟨by repeat ((with_reducible first | exact HB.out | refine below_set ?_ qg.out))⟩⟩
  ·
   rw [if_neg qS] at H
   have c29b0 : decide ((wrap64 (a0_0 * a1_0)) < 0) = false := decide_eq_false qS
   clear qS
   (skip)
   have H' := am H
   clear H
   have z0 := jT.out
   have z1 := jU.out
   have z2 := jk.out
   have z3 := jz.out
   have z4 := jm.out
   have z5 := jB.out
   have z6 := jw.out
   have z7 := jL.out
   have q6 : qj.cell? ⟨js, 0, none⟩ = some (.int .i64 a0_0) := (blk_cell ja.out 0).trans rfl
   have q7 : qj.cell? ⟨js, 1, none⟩ = some (.slice jN l0_1.length jO) := (blk_cell ja.out 1).trans rfl
   have q8 := blk_frozen ja.out 0
   have q9 := blk_frozen ja.out 1
   have z8 := jl.out
   have z9 := jA.out
   have ua := jn.out
   have ub := jC.out
   have uc := jx.out
   have ud := jM.out
   have za : qj.cell? ⟨jt, 0, none⟩ = some (.int .i64 a1_0) := (blk_cell jb.out 0).trans rfl
   have zb : qj.cell? ⟨jt, 1, none⟩ = some (.slice jR l1_1.length jS) := (blk_cell jb.out 1).trans rfl
   have zc := blk_frozen jb.out 0
   have zd := blk_frozen jb.out 1
   go_wp2
   go_meet
   case rel => exact ⟨_, (false), (by rfl), H', ⟨by omega⟩, ⟨by exact Kd.V_mono (Kd.V_far (p := ⟨jc, 1, none⟩) (Kd.V_far (p := ⟨jc, 0, none⟩) (Kd.V_mono jy.out (fun k_ hk => (⟨hk, hk.2⟩ : _ ∧ k_ ≠ jc))) (fun _ hk => hk.2) (.int .i64 jH)) (fun _ hk => hk.2) (.slice jP jG.length jQ)) (fun _ hk => ⟨hk.1.1.1.1.1.1.1.1, ⟨hk.1.1.1.1.1.1.1.2, ⟨hk.1.1.1.1.1.1.2, ⟨hk.1.1.1.1.1.2, ⟨hk.1.1.1.1.2, hk.1.2⟩⟩⟩⟩⟩)⟩, ⟨by exact Kd.V_mono (Kd.V_far (p := ⟨jc, 1, none⟩) (Kd.V_far (p := ⟨jc, 0, none⟩) (Kd.V_mono j3.out (fun k_ hk => (⟨hk, hk.2⟩ : _ ∧ k_ ≠ jc))) (fun _ hk => hk.2) (.int .i64 jH)) (fun _ hk => hk.2) (.slice jP jG.length jQ)) (fun _ hk => ⟨hk.1.1.1, ⟨hk.1.1.2.2.1, ⟨hk.1.1.2.2.2.1, ⟨hk.1.1.2.2.2.2.1, ⟨hk.1.1.2.2.2.2.2, hk.1.2⟩⟩⟩⟩⟩)⟩, ⟨by refine blk_far ?_ jw.out _; refine blk_far ?_ jw.out _; exact ja.out⟩, ⟨by refine blk_far ?_ jx.out _; refine blk_far ?_ jx.out _; exact jb.out⟩, ⟨by refine blk_far ?_ jq.out _; refine blk_far ?_ jq.out _; exact ji.out⟩, ⟨by refine blk_far ?_ jr.out _; refine blk_far ?_ jr.out _; exact jj.out⟩, ⟨by refine blk_put (cs := #[.int .i64 jH, .slice none 0 0]) ?_ 1 _ rfl; refine blk_put (cs := #[.int .i64 0, .slice none 0 0]) ?_ 0 _ rfl; exact jh.out⟩, ⟨by repeat ((with_reducible first | exact HB.out | refine below_set ?_ qg.out))⟩⟩
 case rest =>
  clear zh
  try clear ql
  try clear qm
  try clear qp
  try clear qq
  try clear qt
  try clear qu
  try clear qx
  try clear qy
  try clear qB
  try clear qC
  try clear qn
  try clear qo
  try clear qr
  try clear qs
  try clear qv
  try clear qw
  try clear qz
  try clear qA
  try clear qD
  try clear qE
  obtain ⟨kq, j8, rfl, HA, HJ4, je, jd, ja, jb, ji, jj, jh, HB⟩ := hcut
  cases kq with
  | zero => exact absurd HA.out (by simp [zelligeref04_Floor.j0])
  | succ kj4 =>
   have H := HA.out
   clear HA
   simp only [zelligeref04_Floor.j0] at H
   by_cases ze : j8 = true
   ·
    subst ze
    rw [if_pos rfl] at H
    obtain ⟨⟨qJ, jV⟩, uk, H⟩ := bindE H
    dsimp only at H
    obtain ⟨⟨jD, jE⟩, ul, H⟩ := bindE H
    dsimp only at H
    obtain ⟨⟨qK, qL⟩, um, H⟩ := bindE H
    dsimp only at H
    obtain ⟨⟨qb, qh⟩, un, H⟩ := bindE H
    replace H : (some (jD, jE, qb, qh)) = some (r1, r2, r3, r4) := H
    simp only [Option.some.injEq, Prod.mk.injEq] at H
    obtain ⟨rfl, rfl, rfl, rfl⟩ := H
    try go_wp2
    replace je := am (Kd.V_drew je.out)
    replace jd := am (Kd.V_drew jd.out)
    replace ja := am (blk_drew ja.out)
    replace jb := am (blk_drew jb.out)
    replace ji := am (blk_drew ji.out)
    replace jj := am (blk_drew jj.out)
    replace jh := am (blk_drew jh.out)
    replace HB := am (below_drew1 HB.out)
    refine start_ (n := 4) (S := fun w' => w'.cell? ⟨jc, 0, none⟩ = some (.int .i64 jH) ∧ w'.cell? ⟨jc, 1, none⟩ = some (.slice jP jG.length jQ)) (ds := [3]) #[false, false, false, false] (by kernel_rfl) rfl rfl ⟨(blk_cell jh.out 0).trans rfl, (blk_cell jh.out 1).trans rfl⟩ (fun hHeld => ?_)
    generalize wc.drew = uI at je jd ja jb ji jj jh HB hHeld ⊢
    refine take_ (i := 0) (N := some 35) (v := ?_) (a' := ?_) #[true, false, false, false] rfl rfl (by kernel_rfl) (fun _ _ _ h => h) (Or.inl ⟨by rfl, ?_⟩) hHeld ?_ ?_
    rotate_left
    ·
     rintro w' ⟨s0, s1⟩
     go_simp
     with_reducible rfl
    rotate_left
    ·
     simp only [Act.put, sI_, s0_, s1_, i64_w, i32_w]
     rfl
    refine one_ (i := 1) (N := some 36) #[true, true, false, false] rfl rfl (by kernel_rfl) (by decide) (fun K hK => ?_)
    refine goes_ Try.func38 (by kernel_rfl) rfl #[.int .i64 1] (by rfl) rfl rfl (by (try simp only [List.map_toArray, List.map_cons, List.map_nil]); rfl) ?_
    with_reducible refine (zelligeref04_Long.calls kj4 1 qJ jV _ uk.out).mono ?_
    rintro e uJ ⟨uo, rfl, ho0, hb⟩
    refine ⟨_, rfl, ?_⟩
    replace je := am (Kd.V_elder' je.out (Kd.R_base ho0) hb)
    replace jd := am (Kd.V_elder' jd.out (Kd.R_base ho0) hb)
    have jF := am (Kd.R_lower (Kd.R_newM (M := fun k_ => (w.heap.size ≤ k_)) ho0 (below_size HB.out) (fun k_ h_ => h_)) (below_size HB.out))
    replace ja := am (blk_below ja.out hb)
    replace jb := am (blk_below jb.out hb)
    replace ji := am (blk_below ji.out hb)
    replace jj := am (blk_below jj.out hb)
    replace jh := am (blk_below jh.out hb)
    replace HB := am (below_step HB.out hb)
    try clear hb
    try clear ho0
    obtain ⟨jX, jY, eo56⟩ := Kd.R_slice jF.out
    (subst eo56)
    refine hK.out _ _ ⟨(blk_cell jh.out 0).trans rfl, (blk_cell jh.out 1).trans rfl⟩ (fun hHeld => ?_)
    clear hK K
    refine norm_ (a' := ?_) ?_ ?_
    rotate_left
    ·
     show Act.put _ (some 36) _ = _
     simp only [Act.put, sI_, s0_, s1_, i64_w, i32_w]
     rfl
    refine one_ (i := 2) (N := some 37) #[true, true, true, false] rfl rfl (by kernel_rfl) (by decide) (fun K hK => ?_)
    refine goes_ Try.func22 (by kernel_rfl) rfl #[.agg #[.int .i64 jH, .slice jP jG.length jQ], .agg #[.int .i64 qJ, .slice jX jV.length jY]] (by rfl) rfl rfl (by (try simp only [List.map_toArray, List.map_cons, List.map_nil]); rfl) ?_
    with_reducible refine (zelligeref04_Sub.calls kj4 jH (fun k_ => (((P0_1_ k_ ∨ w.heap.size ≤ k_) ∧ (k_ ≠ js ∧ (k_ ≠ jt ∧ (k_ ≠ jf ∧ (k_ ≠ jg ∧ k_ ≠ jc))))) ∧ some k_ ≠ (.slice jX jV.length jY : Value).ownBlock)) _ _ jG qJ (fun k_ => some k_ = (.slice jX jV.length jY : Value).ownBlock) _ _ jV jD jE _ ?side1 ?side2 ul.out).mono ?_
    (case side1 => exact jd.out)
    (case side2 => exact Kd.R_V (Kd.R_tight rfl (Kd.R_types (Kd.R_types (Kd.R_types (Kd.R_types (Kd.R_types (jF.out) ja.out (by decide)) jb.out (by decide)) ji.out (by decide)) jj.out (by decide)) jh.out (by decide))))
    rintro e qc ⟨up, rfl, ho0, hb⟩
    refine ⟨_, rfl, ?_⟩
    replace je := am (Kd.V_below je.out hb)
    replace jd := am (Kd.V_below jd.out hb)
    have Z0_ := (Kd.R_types (Kd.R_types (Kd.R_types (Kd.R_types (Kd.R_types (jF.out) ja.out (by decide)) jb.out (by decide)) ji.out (by decide)) jj.out (by decide)) jh.out (by decide))
    have jK := am (Kd.V_lower (Kd.V_mono (ok' := fun k_ => (P0_1_ k_ ∨ w.heap.size ≤ k_) ∧ k_ ≠ js ∧ k_ ≠ jt ∧ k_ ≠ jf ∧ k_ ≠ jg ∧ k_ ≠ jc) ho0 (fun k_ hk_ => ⟨Or.elim hk_ (fun hs_ => Or.elim hs_ (fun hs_ => hs_.1.1) (fun hs_ => (.inr ((Z0_.1 k_ hs_.symm).1.1.1.1.1.1)))) (fun hn_ => (.inr (Nat.le_trans (below_size HB.out) hn_))), Or.elim hk_ (fun hs_ => Or.elim hs_ (fun hs_ => hs_.1.2.1) (fun hs_ => (Z0_.1 k_ hs_.symm).1.1.1.1.2)) (fun hn_ => (Kd.freshB ja.out k_ hn_)), Or.elim hk_ (fun hs_ => Or.elim hs_ (fun hs_ => hs_.1.2.2.1) (fun hs_ => (Z0_.1 k_ hs_.symm).1.1.1.2)) (fun hn_ => (Kd.freshB jb.out k_ hn_)), Or.elim hk_ (fun hs_ => Or.elim hs_ (fun hs_ => hs_.1.2.2.2.1) (fun hs_ => (Z0_.1 k_ hs_.symm).1.1.2)) (fun hn_ => (Kd.freshB ji.out k_ hn_)), Or.elim hk_ (fun hs_ => Or.elim hs_ (fun hs_ => hs_.1.2.2.2.2.1) (fun hs_ => (Z0_.1 k_ hs_.symm).1.2)) (fun hn_ => (Kd.freshB jj.out k_ hn_)), Or.elim hk_ (fun hs_ => Or.elim hs_ (fun hs_ => hs_.1.2.2.2.2.2) (fun hs_ => (Z0_.1 k_ hs_.symm).2)) (fun hn_ => (Kd.freshB jh.out k_ hn_))⟩)) (below_size HB.out))
    clear Z0_
    replace jF := am (Kd.R_below jF.out hb)
    replace ja := am (blk_below ja.out hb)
    replace jb := am (blk_below jb.out hb)
    replace ji := am (blk_below ji.out hb)
    replace jj := am (blk_below jj.out hb)
    replace jh := am (blk_below jh.out hb)
    replace HB := am (below_step HB.out hb)
    try clear hb
    try clear ho0
    obtain ⟨jI, jJ, eo59⟩ := Kd.V_slice jK.out
    (subst eo59)
    refine hK.out _ _ ⟨(blk_cell jh.out 0).trans rfl, (blk_cell jh.out 1).trans rfl⟩ (fun hHeld => ?_)
    clear hK K
    refine norm_ (a' := ?_) ?_ ?_
    rotate_left
    ·
     show Act.put _ (some 37) _ = _
     simp only [Act.put, sI_, s0_, s1_, i64_w, i32_w]
     rfl
    refine last_ (i := 3) (N := none) #[true, true, true, true] rfl rfl (by kernel_rfl) (by decide) (fun K hK => ?_)
    have uq : qc.cell? ⟨jc, 0, none⟩ = some (.int .i64 jH) := (blk_cell jh.out 0).trans rfl
    have hfs58 := blk_frozen jh.out 0
    have hns58_0 := jw.out
    have hns58_1 := jx.out
    have hns58_2 := jq.out
    have hns58_3 := jr.out
    have hms58_0 := jL.out
    have hms58_1 := jM.out
    have hms58_2 := jo.out
    have hms58_3 := jp.out
    have ur : qc.cell? ⟨jc, 1, none⟩ = some (.slice jP jG.length jQ) := (blk_cell jh.out 1).trans rfl
    have hfs60 := blk_frozen jh.out 1
    have hns60_0 := jw.out
    have hns60_1 := jx.out
    have hns60_2 := jq.out
    have hns60_3 := jr.out
    have hms60_0 := jL.out
    have hms60_1 := jM.out
    have hms60_2 := jo.out
    have hms60_3 := jp.out
    refine skip_ (w1 := ?_) (by rfl) rfl ?_ ?_
    rotate_left
    ·
     go_simp
     rfl
    refine hK.out _ _ ?_
    clear hK K
    refine done_ (by kernel_rfl) ?_
    try go_wp2
    have n0_ : Aside0 (Kd.V (Kd.int .i64) 3 ((qc.setCell ⟨jc, 0, none⟩ (.int .i64 jD)).setCell ⟨jc, 1, none⟩ (.slice jI jE.length jJ)) w.heap.size (fun k_ => (P0_1_ k_ ∨ w.heap.size ≤ k_) ∧ some k_ ≠ (.slice jX jV.length jY : Value).ownBlock ∧ k_ ≠ js ∧ k_ ≠ jt ∧ k_ ≠ jf ∧ k_ ≠ jg ∧ k_ ≠ jc) (.slice jN l0_1.length jO) l0_1) := ⟨by exact Kd.V_mono (Kd.V_far (p := ⟨jc, 1, none⟩) (Kd.V_far (p := ⟨jc, 0, none⟩) (Kd.V_mono je.out (fun k_ hk => (⟨hk, hk.1.2.2.2.2.2⟩ : _ ∧ k_ ≠ jc))) (fun _ hk => hk.2) (.int .i64 jD)) (fun _ hk => hk.2) (.slice jI jE.length jJ)) (fun _ hk => ⟨hk.1.1.1, ⟨hk.1.2, ⟨hk.1.1.2.1, ⟨hk.1.1.2.2.1, ⟨hk.1.1.2.2.2.1, ⟨hk.1.1.2.2.2.2.1, hk.1.1.2.2.2.2.2⟩⟩⟩⟩⟩⟩)⟩
    have n1_ : Aside0 (Kd.V (Kd.int .i64) 3 ((qc.setCell ⟨jc, 0, none⟩ (.int .i64 jD)).setCell ⟨jc, 1, none⟩ (.slice jI jE.length jJ)) w.heap.size (fun k_ => (P0_1_ k_ ∨ w.heap.size ≤ k_) ∧ some k_ ≠ (.slice jX jV.length jY : Value).ownBlock ∧ k_ ≠ js ∧ k_ ≠ jt ∧ k_ ≠ jf ∧ k_ ≠ jg ∧ k_ ≠ jc) (.slice jP jG.length jQ) jG) := ⟨by exact Kd.V_mono (Kd.V_far (p := ⟨jc, 1, none⟩) (Kd.V_far (p := ⟨jc, 0, none⟩) (Kd.V_mono jd.out (fun k_ hk => (⟨hk, hk.1.2.2.2.2.2⟩ : _ ∧ k_ ≠ jc))) (fun _ hk => hk.2) (.int .i64 jD)) (fun _ hk => hk.2) (.slice jI jE.length jJ)) (fun _ hk => ⟨hk.1.1.1, ⟨hk.1.2, ⟨hk.1.1.2.1, ⟨hk.1.1.2.2.1, ⟨hk.1.1.2.2.2.1, ⟨hk.1.1.2.2.2.2.1, hk.1.1.2.2.2.2.2⟩⟩⟩⟩⟩⟩)⟩
    have n2_ : Aside0 (Kd.R (Kd.int .i64) 3 ((qc.setCell ⟨jc, 0, none⟩ (.int .i64 jD)).setCell ⟨jc, 1, none⟩ (.slice jI jE.length jJ)) w.heap.size (fun k_ => (w.heap.size ≤ k_)) (.slice jX jV.length jY) jV) := ⟨by exact Kd.R_mono (Kd.R_far (p := ⟨jc, 1, none⟩) (Kd.R_far (p := ⟨jc, 0, none⟩) (Kd.R_types jF.out jh.out (by decide)) (fun _ hk => hk.2) (.int .i64 jD)) (fun _ hk => hk.2) (.slice jI jE.length jJ)) (fun _ hk => hk.1.1)⟩
    have n3_ : Aside0 (Kd.V (Kd.int .i64) 3 ((qc.setCell ⟨jc, 0, none⟩ (.int .i64 jD)).setCell ⟨jc, 1, none⟩ (.slice jI jE.length jJ)) w.heap.size (fun k_ => (P0_1_ k_ ∨ w.heap.size ≤ k_) ∧ k_ ≠ js ∧ k_ ≠ jt ∧ k_ ≠ jf ∧ k_ ≠ jg ∧ k_ ≠ jc) (.slice jI jE.length jJ) jE) := ⟨by exact Kd.V_mono (Kd.V_far (p := ⟨jc, 1, none⟩) (Kd.V_far (p := ⟨jc, 0, none⟩) (Kd.V_mono jK.out (fun k_ hk => (⟨hk, hk.2.2.2.2.2⟩ : _ ∧ k_ ≠ jc))) (fun _ hk => hk.2) (.int .i64 jD)) (fun _ hk => hk.2) (.slice jI jE.length jJ)) (fun _ hk => ⟨hk.1.1, ⟨hk.1.2.1, ⟨hk.1.2.2.1, ⟨hk.1.2.2.2.1, ⟨hk.1.2.2.2.2.1, hk.1.2.2.2.2.2⟩⟩⟩⟩⟩)⟩
    have n4_ : Aside0 (((qc.setCell ⟨jc, 0, none⟩ (.int .i64 jD)).setCell ⟨jc, 1, none⟩ (.slice jI jE.length jJ)).heap[js]? = some (.cells #[.int .i64 a0_0, .slice jN l0_1.length jO] 33 (0, 0))) := ⟨by refine blk_far ?_ jw.out _; refine blk_far ?_ jw.out _; exact ja.out⟩
    have n5_ : Aside0 (((qc.setCell ⟨jc, 0, none⟩ (.int .i64 jD)).setCell ⟨jc, 1, none⟩ (.slice jI jE.length jJ)).heap[jt]? = some (.cells #[.int .i64 a1_0, .slice jR l1_1.length jS] 33 (0, 0))) := ⟨by refine blk_far ?_ jx.out _; refine blk_far ?_ jx.out _; exact jb.out⟩
    have n6_ : Aside0 (((qc.setCell ⟨jc, 0, none⟩ (.int .i64 jD)).setCell ⟨jc, 1, none⟩ (.slice jI jE.length jJ)).heap[jf]? = some (.cells #[.int .i64 0, .slice none 0 0] 33 (0, 0))) := ⟨by refine blk_far ?_ jq.out _; refine blk_far ?_ jq.out _; exact ji.out⟩
    have n7_ : Aside0 (((qc.setCell ⟨jc, 0, none⟩ (.int .i64 jD)).setCell ⟨jc, 1, none⟩ (.slice jI jE.length jJ)).heap[jg]? = some (.cells #[.int .i64 0, .slice none 0 0] 33 (0, 0))) := ⟨by refine blk_far ?_ jr.out _; refine blk_far ?_ jr.out _; exact jj.out⟩
    have n8_ : Aside0 (((qc.setCell ⟨jc, 0, none⟩ (.int .i64 jD)).setCell ⟨jc, 1, none⟩ (.slice jI jE.length jJ)).heap[jc]? = some (.cells #[.int .i64 jD, .slice jI jE.length jJ] 33 (0, 0))) := ⟨by refine blk_put (cs := #[.int .i64 jD, .slice jP jG.length jQ]) ?_ 1 _ rfl; refine blk_put (cs := #[.int .i64 jH, .slice jP jG.length jQ]) ?_ 0 _ rfl; exact jh.out⟩
    have n9_ : Aside0 (Below w.heap.size w ((qc.setCell ⟨jc, 0, none⟩ (.int .i64 jD)).setCell ⟨jc, 1, none⟩ (.slice jI jE.length jJ))) := ⟨by repeat ((with_reducible first | exact HB.out | refine below_set ?_ qg.out))⟩
    try clear je
    try clear jd
    try clear jF
    try clear jK
    try clear ja
    try clear jb
    try clear ji
    try clear jj
    try clear jh
    try clear HB
    generalize ((qc.setCell ⟨jc, 0, none⟩ (.int .i64 jD)).setCell ⟨jc, 1, none⟩ (.slice jI jE.length jJ)) = us at n0_ n1_ n2_ n3_ n4_ n5_ n6_ n7_ n8_ n9_ ⊢
    have je := n0_
    have jd := n1_
    have jF := n2_
    have jK := n3_
    have ja := n4_
    have jb := n5_
    have ji := n6_
    have jj := n7_
    have jh := n8_
    have HB := n9_
    clear n0_ n1_ n2_ n3_ n4_ n5_ n6_ n7_ n8_ n9_
    replace je := am (Kd.V_drew je.out)
    replace jd := am (Kd.V_drew jd.out)
    replace jF := am (Kd.R_drew jF.out)
    replace jK := am (Kd.V_drew jK.out)
    replace ja := am (blk_drew ja.out)
    replace jb := am (blk_drew jb.out)
    replace ji := am (blk_drew ji.out)
    replace jj := am (blk_drew jj.out)
    replace jh := am (blk_drew jh.out)
    replace HB := am (below_drew1 HB.out)
    refine start_ (n := 8) (S := fun w' => w'.cell? ⟨jc, 0, none⟩ = some (.int .i64 jD) ∧ w'.cell? ⟨jc, 1, none⟩ = some (.slice jI jE.length jJ) ∧ w'.cell? ⟨js, 0, none⟩ = some (.int .i64 a0_0) ∧ w'.cell? ⟨js, 1, none⟩ = some (.slice jN l0_1.length jO) ∧ w'.cell? ⟨jt, 0, none⟩ = some (.int .i64 a1_0) ∧ w'.cell? ⟨jt, 1, none⟩ = some (.slice jR l1_1.length jS)) (ds := []) #[false, false, false, false, false, false, false, false] (by kernel_rfl) rfl rfl ⟨(blk_cell jh.out 0).trans rfl, (blk_cell jh.out 1).trans rfl, (blk_cell ja.out 0).trans rfl, (blk_cell ja.out 1).trans rfl, (blk_cell jb.out 0).trans rfl, (blk_cell jb.out 1).trans rfl⟩ (fun hHeld => ?_); refine with_tabW zelligeref04_Floor.tab5 zelligeref04_Floor.bits5 (fun HT_ HW_ => ?_)
    generalize us.drew = uK at je jd jF jK ja jb ji jj jh HB hHeld ⊢
    refine take_ (i := 0) (N := some 38) (v := ?_) (a' := ?_) #[true, false, false, false, false, false, false, false] rfl rfl (take_ofW HT_.out HW_.out (by kernel_rfl)) (fun _ _ _ h => h) (Or.inl ⟨by rfl, ?_⟩) hHeld ?_ ?_
    rotate_left
    ·
     rintro w' ⟨s0, s1, s2, s3, s4, s5⟩
     go_simp
     with_reducible rfl
    rotate_left
    ·
     simp only [Act.put, sI_, s0_, s1_, i64_w, i32_w]
     rfl
    refine take_ (i := 1) (N := some 39) (v := ?_) (a' := ?_) #[true, true, false, false, false, false, false, false] rfl rfl (take_ofW HT_.out HW_.out (by kernel_rfl)) (fun _ _ _ h => h) (Or.inl ⟨by rfl, ?_⟩) hHeld ?_ ?_
    rotate_left
    ·
     rintro w' ⟨s0, s1, s2, s3, s4, s5⟩
     go_simp
     with_reducible rfl
    rotate_left
    ·
     simp only [Act.put, sI_, s0_, s1_, i64_w, i32_w]
     rfl
    refine take_ (i := 2) (N := some 40) (v := ?_) (a' := ?_) #[true, true, true, false, false, false, false, false] rfl rfl (take_ofW HT_.out HW_.out (by kernel_rfl)) (fun _ _ _ h => h) (Or.inl ⟨by rfl, ?_⟩) hHeld ?_ ?_
    rotate_left
    ·
     rintro w' ⟨s0, s1, s2, s3, s4, s5⟩
     go_simp
     with_reducible rfl
    rotate_left
    ·
     simp only [Act.put, sI_, s0_, s1_, i64_w, i32_w]
     rfl
    refine take_ (i := 3) (N := some 41) (v := ?_) (a' := ?_) #[true, true, true, true, false, false, false, false] rfl rfl (take_ofW HT_.out HW_.out (by kernel_rfl)) (fun _ _ _ h => h) (Or.inl ⟨by rfl, ?_⟩) hHeld ?_ ?_
    rotate_left
    ·
     rintro w' ⟨s0, s1, s2, s3, s4, s5⟩
     go_simp
     with_reducible rfl
    rotate_left
    ·
     simp only [Act.put, sI_, s0_, s1_, i64_w, i32_w]
     rfl
    refine one_ (i := 4) (N := some 42) #[true, true, true, true, true, false, false, false] rfl rfl (one_of HT_.out (by kernel_rfl)) (by decide) (fun K hK => ?_)
    refine goes_ Try.func24 (by kernel_rfl) rfl #[.agg #[.int .i64 jD, .slice jI jE.length jJ], .agg #[.int .i64 a1_0, .slice jR l1_1.length jS]] (by rfl) rfl rfl (by (try simp only [List.map_toArray, List.map_cons, List.map_nil]); rfl) ?_
    with_reducible refine (zelligeref04_Mul.calls kj4 jD _ _ jE a1_0 _ _ l1_1 qK qL _ ?side1 ?side2 ?side3 ?side4 um.out).mono ?_
    (case side1 => exact (Kd.V_reads' jK.out).2.2)
    (case side2 => exact (Kd.V_reads' jK.out).2.1)
    (case side3 => repeat (exact (Kd.C_below qe.out HB.out)))
    (case side4 => exact qf.out)
    rintro e uL ⟨ut, rfl, ho0, hb⟩
    refine ⟨_, rfl, ?_⟩
    replace je := am (Kd.V_below je.out hb)
    replace jd := am (Kd.V_below jd.out hb)
    replace jK := am (Kd.V_below jK.out hb)
    have j9 := am (Kd.V_lower (Kd.V_mono (ok' := fun k_ => (P0_1_ k_ ∨ w.heap.size ≤ k_) ∧ some k_ ≠ (.slice jX jV.length jY : Value).ownBlock ∧ k_ ≠ js ∧ k_ ≠ jt ∧ k_ ≠ jf ∧ k_ ≠ jg ∧ k_ ≠ jc) ho0 (fun k_ hk_ => ⟨(.inr (Nat.le_trans (below_size HB.out) hk_)), (Kd.fresh' (Kd.R_lt jF.out) k_ hk_), (Kd.freshB ja.out k_ hk_), (Kd.freshB jb.out k_ hk_), (Kd.freshB ji.out k_ hk_), (Kd.freshB jj.out k_ hk_), (Kd.freshB jh.out k_ hk_)⟩)) (below_size HB.out))
    replace jF := am (Kd.R_below jF.out hb)
    replace ja := am (blk_below ja.out hb)
    replace jb := am (blk_below jb.out hb)
    replace ji := am (blk_below ji.out hb)
    replace jj := am (blk_below jj.out hb)
    replace jh := am (blk_below jh.out hb)
    replace HB := am (below_step HB.out hb)
    try clear hb
    try clear ho0
    obtain ⟨zj, zk, eo64⟩ := Kd.V_slice j9.out
    (subst eo64)
    refine hK.out _ _ ⟨(blk_cell jh.out 0).trans rfl, (blk_cell jh.out 1).trans rfl, (blk_cell ja.out 0).trans rfl, (blk_cell ja.out 1).trans rfl, (blk_cell jb.out 0).trans rfl, (blk_cell jb.out 1).trans rfl⟩ (fun hHeld => ?_)
    clear hK K
    refine norm_ (a' := ?_) ?_ ?_
    rotate_left
    ·
     show Act.put _ (some 42) _ = _
     simp only [Act.put, sI_, s0_, s1_, i64_w, i32_w]
     rfl
    refine one_ (i := 5) (N := some 43) #[true, true, true, true, true, true, false, false] rfl rfl (one_of HT_.out (by kernel_rfl)) (by decide) (fun K hK => ?_)
    refine goes_ Try.func22 (by kernel_rfl) rfl #[.agg #[.int .i64 a0_0, .slice jN l0_1.length jO], .agg #[.int .i64 qK, .slice zj qL.length zk]] (by rfl) rfl rfl (by (try simp only [List.map_toArray, List.map_cons, List.map_nil]); rfl) ?_
    with_reducible refine (zelligeref04_Sub.calls kj4 a0_0 (fun k_ => ((P0_1_ k_ ∨ w.heap.size ≤ k_) ∧ (some k_ ≠ (.slice jX jV.length jY : Value).ownBlock ∧ (k_ ≠ js ∧ (k_ ≠ jt ∧ (k_ ≠ jf ∧ (k_ ≠ jg ∧ k_ ≠ jc))))))) _ _ l0_1 qK (fun k_ => ((P0_1_ k_ ∨ w.heap.size ≤ k_) ∧ (some k_ ≠ (.slice jX jV.length jY : Value).ownBlock ∧ (k_ ≠ js ∧ (k_ ≠ jt ∧ (k_ ≠ jf ∧ (k_ ≠ jg ∧ k_ ≠ jc))))))) _ _ qL qb qh _ ?side1 ?side2 un.out).mono ?_
    (case side1 => exact je.out)
    (case side2 => exact j9.out)
    rintro e zf ⟨uu, rfl, ho0, hb⟩
    refine ⟨_, rfl, ?_⟩
    replace je := am (Kd.V_below je.out hb)
    replace jd := am (Kd.V_below jd.out hb)
    replace jK := am (Kd.V_below jK.out hb)
    replace j9 := am (Kd.V_below j9.out hb)
    have qH := am (Kd.V_lower (Kd.V_mono (ok' := fun k_ => (P0_1_ k_ ∨ w.heap.size ≤ k_) ∧ some k_ ≠ (.slice jX jV.length jY : Value).ownBlock ∧ k_ ≠ js ∧ k_ ≠ jt ∧ k_ ≠ jf ∧ k_ ≠ jg ∧ k_ ≠ jc) ho0 (fun k_ hk_ => ⟨Or.elim hk_ (fun hs_ => Or.elim hs_ (fun hs_ => hs_.1) (fun hs_ => hs_.1)) (fun hn_ => (.inr (Nat.le_trans (below_size HB.out) hn_))), Or.elim hk_ (fun hs_ => Or.elim hs_ (fun hs_ => hs_.2.1) (fun hs_ => hs_.2.1)) (fun hn_ => (Kd.fresh' (Kd.R_lt jF.out) k_ hn_)), Or.elim hk_ (fun hs_ => Or.elim hs_ (fun hs_ => hs_.2.2.1) (fun hs_ => hs_.2.2.1)) (fun hn_ => (Kd.freshB ja.out k_ hn_)), Or.elim hk_ (fun hs_ => Or.elim hs_ (fun hs_ => hs_.2.2.2.1) (fun hs_ => hs_.2.2.2.1)) (fun hn_ => (Kd.freshB jb.out k_ hn_)), Or.elim hk_ (fun hs_ => Or.elim hs_ (fun hs_ => hs_.2.2.2.2.1) (fun hs_ => hs_.2.2.2.2.1)) (fun hn_ => (Kd.freshB ji.out k_ hn_)), Or.elim hk_ (fun hs_ => Or.elim hs_ (fun hs_ => hs_.2.2.2.2.2.1) (fun hs_ => hs_.2.2.2.2.2.1)) (fun hn_ => (Kd.freshB jj.out k_ hn_)), Or.elim hk_ (fun hs_ => Or.elim hs_ (fun hs_ => hs_.2.2.2.2.2.2) (fun hs_ => hs_.2.2.2.2.2.2)) (fun hn_ => (Kd.freshB jh.out k_ hn_))⟩)) (below_size HB.out))
    replace jF := am (Kd.R_below jF.out hb)
    replace ja := am (blk_below ja.out hb)
    replace jb := am (blk_below jb.out hb)
    replace ji := am (blk_below ji.out hb)
    replace jj := am (blk_below jj.out hb)
    replace jh := am (blk_below jh.out hb)
    replace HB := am (below_step HB.out hb)
    try clear hb
    try clear ho0
    obtain ⟨qM, qN, eo69⟩ := Kd.V_slice qH.out
    (subst eo69)
    refine hK.out _ _ ⟨(blk_cell jh.out 0).trans rfl, (blk_cell jh.out 1).trans rfl, (blk_cell ja.out 0).trans rfl, (blk_cell ja.out 1).trans rfl, (blk_cell jb.out 0).trans rfl, (blk_cell jb.out 1).trans rfl⟩ (fun hHeld => ?_)
    clear hK K
    refine norm_ (a' := ?_) ?_ ?_
    rotate_left
    ·
     show Act.put _ (some 43) _ = _
     simp only [Act.put, sI_, s0_, s1_, i64_w, i32_w]
     rfl
    refine one_ (i := 6) (N := none) #[true, true, true, true, true, true, true, false] rfl rfl (one_of HT_.out (by kernel_rfl)) (by decide) (fun K hK => ?_)
    have uv : zf.cell? ⟨jf, 0, none⟩ = some (.int .i64 0) := (blk_cell ji.out 0).trans rfl
    have hfs66 := blk_frozen ji.out 0
    have hns66_0 := jk.out
    have hns66_1 := jl.out
    have hns66_3 := jv.out
    have hns66_4 := jo.out
    have hms66_0 := jz.out
    have hms66_1 := jA.out
    have hms66_3 := ju.out
    have hms66_4 := jq.out
    have uw : zf.cell? ⟨jf, 1, none⟩ = some (.slice none 0 0) := (blk_cell ji.out 1).trans rfl
    have hfs67 := blk_frozen ji.out 1
    have hns67_0 := jk.out
    have hns67_1 := jl.out
    have hns67_3 := jv.out
    have hns67_4 := jo.out
    have hms67_0 := jz.out
    have hms67_1 := jA.out
    have hms67_3 := ju.out
    have hms67_4 := jq.out
    refine skip_ (w1 := ?_) (by rfl) rfl ?_ ?_
    rotate_left
    ·
     go_simp
     rfl
    refine hK.out _ _ ⟨((cell_far (p := ⟨jf, _, none⟩) jo.out _).trans (((cell_far (p := ⟨jf, _, none⟩) jo.out _).trans (hHeld.1)))), ((cell_far (p := ⟨jf, _, none⟩) jo.out _).trans (((cell_far (p := ⟨jf, _, none⟩) jo.out _).trans (hHeld.2.1)))), ((cell_far (p := ⟨jf, _, none⟩) jk.out _).trans (((cell_far (p := ⟨jf, _, none⟩) jk.out _).trans (hHeld.2.2.1)))), ((cell_far (p := ⟨jf, _, none⟩) jk.out _).trans (((cell_far (p := ⟨jf, _, none⟩) jk.out _).trans (hHeld.2.2.2.1)))), ((cell_far (p := ⟨jf, _, none⟩) jl.out _).trans (((cell_far (p := ⟨jf, _, none⟩) jl.out _).trans (hHeld.2.2.2.2.1)))), ((cell_far (p := ⟨jf, _, none⟩) jl.out _).trans (((cell_far (p := ⟨jf, _, none⟩) jl.out _).trans (hHeld.2.2.2.2.2))))⟩ (fun hHeld => ?_)
    clear hK K
    refine one_ (i := 7) (N := none) #[true, true, true, true, true, true, true, true] rfl rfl (one_of HT_.out (by kernel_rfl)) (by decide) (fun K hK => ?_)
    have ux : zf.cell? ⟨jg, 0, none⟩ = some (.int .i64 0) := (blk_cell jj.out 0).trans rfl
    have hfs68 := blk_frozen jj.out 0
    have hns68_0 := jm.out
    have hns68_1 := jn.out
    have hns68_2 := ju.out
    have hns68_4 := jp.out
    have hms68_0 := jB.out
    have hms68_1 := jC.out
    have hms68_2 := jv.out
    have hms68_4 := jr.out
    have uy : zf.cell? ⟨jg, 1, none⟩ = some (.slice none 0 0) := (blk_cell jj.out 1).trans rfl
    have hfs70 := blk_frozen jj.out 1
    have hns70_0 := jm.out
    have hns70_1 := jn.out
    have hns70_2 := ju.out
    have hns70_4 := jp.out
    have hms70_0 := jB.out
    have hms70_1 := jC.out
    have hms70_2 := jv.out
    have hms70_4 := jr.out
    refine skip_ (w1 := ?_) (by rfl) rfl ?_ ?_
    rotate_left
    ·
     go_simp
     rfl
    refine hK.out _ _ ⟨((cell_far (p := ⟨jg, _, none⟩) jp.out _).trans (((cell_far (p := ⟨jg, _, none⟩) jp.out _).trans (hHeld.1)))), ((cell_far (p := ⟨jg, _, none⟩) jp.out _).trans (((cell_far (p := ⟨jg, _, none⟩) jp.out _).trans (hHeld.2.1)))), ((cell_far (p := ⟨jg, _, none⟩) jm.out _).trans (((cell_far (p := ⟨jg, _, none⟩) jm.out _).trans (hHeld.2.2.1)))), ((cell_far (p := ⟨jg, _, none⟩) jm.out _).trans (((cell_far (p := ⟨jg, _, none⟩) jm.out _).trans (hHeld.2.2.2.1)))), ((cell_far (p := ⟨jg, _, none⟩) jn.out _).trans (((cell_far (p := ⟨jg, _, none⟩) jn.out _).trans (hHeld.2.2.2.2.1)))), ((cell_far (p := ⟨jg, _, none⟩) jn.out _).trans (((cell_far (p := ⟨jg, _, none⟩) jn.out _).trans (hHeld.2.2.2.2.2))))⟩ (fun hHeld => ?_)
    clear hK K
    refine done_ (done_of HT_.out (by kernel_rfl)) ?_
    try go_wp2
    refine bodyPost_ret (results_cc rfl _ _ jf jg 33 33 #[.int .i64 jD, .slice jI jE.length jJ] #[.int .i64 qb, .slice qM qh.length qN] (0, 0) (0, 0) _ _ rfl (by refine blk_far ?_ ju.out _; refine blk_far ?_ ju.out _; refine blk_put (cs := #[.int .i64 jD, .slice none 0 0]) ?_ 1 _ rfl; refine blk_put (cs := #[.int .i64 0, .slice none 0 0]) ?_ 0 _ rfl; exact ji.out) Try.underlying33 rfl (by kernel_rfl) rfl (by refine blk_put (cs := #[.int .i64 qb, .slice none 0 0]) ?_ 1 _ rfl; refine blk_put (cs := #[.int .i64 0, .slice none 0 0]) ?_ 0 _ rfl; refine blk_far ?_ jv.out _; refine blk_far ?_ jv.out _; exact jj.out) Try.underlying33 rfl (by kernel_rfl)) rfl ?_
    exact ⟨_, _, by rfl, by exact Kd.V_mono (Kd.V_far (p := ⟨jg, 1, none⟩) (Kd.V_far (p := ⟨jg, 0, none⟩) (Kd.V_far (p := ⟨jf, 1, none⟩) (Kd.V_far (p := ⟨jf, 0, none⟩) (Kd.V_mono (Kd.V_mono jK.out (fun k_ hk => (⟨hk, hk.2.2.2.1⟩ : _ ∧ k_ ≠ jf))) (fun k_ hk => (⟨hk, hk.1.2.2.2.2.1⟩ : _ ∧ k_ ≠ jg))) (fun _ hk => hk.1.2) (.int .i64 jD)) (fun _ hk => hk.1.2) (.slice jI jE.length jJ)) (fun _ hk => hk.2) (.int .i64 qb)) (fun _ hk => hk.2) (.slice qM qh.length qN)) (fun _ hk => hk.1.1.1), by exact Kd.V_mono (Kd.V_far (p := ⟨jg, 1, none⟩) (Kd.V_far (p := ⟨jg, 0, none⟩) (Kd.V_far (p := ⟨jf, 1, none⟩) (Kd.V_far (p := ⟨jf, 0, none⟩) (Kd.V_mono (Kd.V_mono qH.out (fun k_ hk => (⟨hk, hk.2.2.2.2.1⟩ : _ ∧ k_ ≠ jf))) (fun k_ hk => (⟨hk, hk.1.2.2.2.2.2.1⟩ : _ ∧ k_ ≠ jg))) (fun _ hk => hk.1.2) (.int .i64 jD)) (fun _ hk => hk.1.2) (.slice jI jE.length jJ)) (fun _ hk => hk.2) (.int .i64 qb)) (fun _ hk => hk.2) (.slice qM qh.length qN)) (fun _ hk => hk.1.1.1), by repeat ((with_reducible first | exact HB.out | refine below_set ?_ qF.out | refine below_set ?_ qG.out))⟩
   ·
    replace ze := Bool.eq_false_iff.mpr ze
    subst ze
    rw [if_neg (show ¬ (false = true) by decide)] at H
    obtain ⟨⟨qO, qP⟩, uz, H⟩ := bindE H
    dsimp only at H
    obtain ⟨⟨qd, qi⟩, uA, H⟩ := bindE H
    replace H : (some (jH, jG, qd, qi)) = some (r1, r2, r3, r4) := H
    simp only [Option.some.injEq, Prod.mk.injEq] at H
    obtain ⟨rfl, rfl, rfl, rfl⟩ := H
    try go_wp2
    replace je := am (Kd.V_drew je.out)
    replace jd := am (Kd.V_drew jd.out)
    replace ja := am (blk_drew ja.out)
    replace jb := am (blk_drew jb.out)
    replace ji := am (blk_drew ji.out)
    replace jj := am (blk_drew jj.out)
    replace jh := am (blk_drew jh.out)
    replace HB := am (below_drew1 HB.out)
    refine start_ (n := 8) (S := fun w' => w'.cell? ⟨jc, 0, none⟩ = some (.int .i64 jH) ∧ w'.cell? ⟨jc, 1, none⟩ = some (.slice jP jG.length jQ) ∧ w'.cell? ⟨js, 0, none⟩ = some (.int .i64 a0_0) ∧ w'.cell? ⟨js, 1, none⟩ = some (.slice jN l0_1.length jO) ∧ w'.cell? ⟨jt, 0, none⟩ = some (.int .i64 a1_0) ∧ w'.cell? ⟨jt, 1, none⟩ = some (.slice jR l1_1.length jS)) (ds := []) #[false, false, false, false, false, false, false, false] (by kernel_rfl) rfl rfl ⟨(blk_cell jh.out 0).trans rfl, (blk_cell jh.out 1).trans rfl, (blk_cell ja.out 0).trans rfl, (blk_cell ja.out 1).trans rfl, (blk_cell jb.out 0).trans rfl, (blk_cell jb.out 1).trans rfl⟩ (fun hHeld => ?_); refine with_tabW zelligeref04_Floor.tab5 zelligeref04_Floor.bits5 (fun HT_ HW_ => ?_)
    generalize wc.drew = uM at je jd ja jb ji jj jh HB hHeld ⊢
    refine take_ (i := 0) (N := some 38) (v := ?_) (a' := ?_) #[true, false, false, false, false, false, false, false] rfl rfl (take_ofW HT_.out HW_.out (by kernel_rfl)) (fun _ _ _ h => h) (Or.inl ⟨by rfl, ?_⟩) hHeld ?_ ?_
    rotate_left
    ·
     rintro w' ⟨s0, s1, s2, s3, s4, s5⟩
     go_simp
     with_reducible rfl
    rotate_left
    ·
     simp only [Act.put, sI_, s0_, s1_, i64_w, i32_w]
     rfl
    refine take_ (i := 1) (N := some 39) (v := ?_) (a' := ?_) #[true, true, false, false, false, false, false, false] rfl rfl (take_ofW HT_.out HW_.out (by kernel_rfl)) (fun _ _ _ h => h) (Or.inl ⟨by rfl, ?_⟩) hHeld ?_ ?_
    rotate_left
    ·
     rintro w' ⟨s0, s1, s2, s3, s4, s5⟩
     go_simp
     with_reducible rfl
    rotate_left
    ·
     simp only [Act.put, sI_, s0_, s1_, i64_w, i32_w]
     rfl
    refine take_ (i := 2) (N := some 40) (v := ?_) (a' := ?_) #[true, true, true, false, false, false, false, false] rfl rfl (take_ofW HT_.out HW_.out (by kernel_rfl)) (fun _ _ _ h => h) (Or.inl ⟨by rfl, ?_⟩) hHeld ?_ ?_
    rotate_left
    ·
     rintro w' ⟨s0, s1, s2, s3, s4, s5⟩
     go_simp
     with_reducible rfl
    rotate_left
    ·
     simp only [Act.put, sI_, s0_, s1_, i64_w, i32_w]
     rfl
    refine take_ (i := 3) (N := some 41) (v := ?_) (a' := ?_) #[true, true, true, true, false, false, false, false] rfl rfl (take_ofW HT_.out HW_.out (by kernel_rfl)) (fun _ _ _ h => h) (Or.inl ⟨by rfl, ?_⟩) hHeld ?_ ?_
    rotate_left
    ·
     rintro w' ⟨s0, s1, s2, s3, s4, s5⟩
     go_simp
     with_reducible rfl
    rotate_left
    ·
     simp only [Act.put, sI_, s0_, s1_, i64_w, i32_w]
     rfl
    refine one_ (i := 4) (N := some 42) #[true, true, true, true, true, false, false, false] rfl rfl (one_of HT_.out (by kernel_rfl)) (by decide) (fun K hK => ?_)
    refine goes_ Try.func24 (by kernel_rfl) rfl #[.agg #[.int .i64 jH, .slice jP jG.length jQ], .agg #[.int .i64 a1_0, .slice jR l1_1.length jS]] (by rfl) rfl rfl (by (try simp only [List.map_toArray, List.map_cons, List.map_nil]); rfl) ?_
    with_reducible refine (zelligeref04_Mul.calls kj4 jH _ _ jG a1_0 _ _ l1_1 qO qP _ ?side1 ?side2 ?side3 ?side4 uz.out).mono ?_
    (case side1 => exact (Kd.V_reads' jd.out).2.2)
    (case side2 => exact (Kd.V_reads' jd.out).2.1)
    (case side3 => repeat (exact (Kd.C_below qe.out HB.out)))
    (case side4 => exact qf.out)
    rintro e uN ⟨uB, rfl, ho0, hb⟩
    refine ⟨_, rfl, ?_⟩
    replace je := am (Kd.V_below je.out hb)
    replace jd := am (Kd.V_below jd.out hb)
    have qa := am (Kd.V_lower (Kd.V_mono (ok' := fun k_ => (P0_1_ k_ ∨ w.heap.size ≤ k_) ∧ k_ ≠ js ∧ k_ ≠ jt ∧ k_ ≠ jf ∧ k_ ≠ jg ∧ k_ ≠ jc) ho0 (fun k_ hk_ => ⟨(.inr (Nat.le_trans (below_size HB.out) hk_)), (Kd.freshB ja.out k_ hk_), (Kd.freshB jb.out k_ hk_), (Kd.freshB ji.out k_ hk_), (Kd.freshB jj.out k_ hk_), (Kd.freshB jh.out k_ hk_)⟩)) (below_size HB.out))
    replace ja := am (blk_below ja.out hb)
    replace jb := am (blk_below jb.out hb)
    replace ji := am (blk_below ji.out hb)
    replace jj := am (blk_below jj.out hb)
    replace jh := am (blk_below jh.out hb)
    replace HB := am (below_step HB.out hb)
    try clear hb
    try clear ho0
    obtain ⟨zl, zm, eo75⟩ := Kd.V_slice qa.out
    (subst eo75)
    refine hK.out _ _ ⟨(blk_cell jh.out 0).trans rfl, (blk_cell jh.out 1).trans rfl, (blk_cell ja.out 0).trans rfl, (blk_cell ja.out 1).trans rfl, (blk_cell jb.out 0).trans rfl, (blk_cell jb.out 1).trans rfl⟩ (fun hHeld => ?_)
    clear hK K
    refine norm_ (a' := ?_) ?_ ?_
    rotate_left
    ·
     show Act.put _ (some 42) _ = _
     simp only [Act.put, sI_, s0_, s1_, i64_w, i32_w]
     rfl
    refine one_ (i := 5) (N := some 43) #[true, true, true, true, true, true, false, false] rfl rfl (one_of HT_.out (by kernel_rfl)) (by decide) (fun K hK => ?_)
    refine goes_ Try.func22 (by kernel_rfl) rfl #[.agg #[.int .i64 a0_0, .slice jN l0_1.length jO], .agg #[.int .i64 qO, .slice zl qP.length zm]] (by rfl) rfl rfl (by (try simp only [List.map_toArray, List.map_cons, List.map_nil]); rfl) ?_
    with_reducible refine (zelligeref04_Sub.calls kj4 a0_0 (fun k_ => ((P0_1_ k_ ∨ w.heap.size ≤ k_) ∧ (k_ ≠ js ∧ (k_ ≠ jt ∧ (k_ ≠ jf ∧ (k_ ≠ jg ∧ k_ ≠ jc)))))) _ _ l0_1 qO (fun k_ => ((P0_1_ k_ ∨ w.heap.size ≤ k_) ∧ (k_ ≠ js ∧ (k_ ≠ jt ∧ (k_ ≠ jf ∧ (k_ ≠ jg ∧ k_ ≠ jc)))))) _ _ qP qd qi _ ?side1 ?side2 uA.out).mono ?_
    (case side1 => exact je.out)
    (case side2 => exact qa.out)
    rintro e zg ⟨uC, rfl, ho0, hb⟩
    refine ⟨_, rfl, ?_⟩
    replace je := am (Kd.V_below je.out hb)
    replace jd := am (Kd.V_below jd.out hb)
    replace qa := am (Kd.V_below qa.out hb)
    have qI := am (Kd.V_lower (Kd.V_mono (ok' := fun k_ => (P0_1_ k_ ∨ w.heap.size ≤ k_) ∧ k_ ≠ js ∧ k_ ≠ jt ∧ k_ ≠ jf ∧ k_ ≠ jg ∧ k_ ≠ jc) ho0 (fun k_ hk_ => ⟨Or.elim hk_ (fun hs_ => Or.elim hs_ (fun hs_ => hs_.1) (fun hs_ => hs_.1)) (fun hn_ => (.inr (Nat.le_trans (below_size HB.out) hn_))), Or.elim hk_ (fun hs_ => Or.elim hs_ (fun hs_ => hs_.2.1) (fun hs_ => hs_.2.1)) (fun hn_ => (Kd.freshB ja.out k_ hn_)), Or.elim hk_ (fun hs_ => Or.elim hs_ (fun hs_ => hs_.2.2.1) (fun hs_ => hs_.2.2.1)) (fun hn_ => (Kd.freshB jb.out k_ hn_)), Or.elim hk_ (fun hs_ => Or.elim hs_ (fun hs_ => hs_.2.2.2.1) (fun hs_ => hs_.2.2.2.1)) (fun hn_ => (Kd.freshB ji.out k_ hn_)), Or.elim hk_ (fun hs_ => Or.elim hs_ (fun hs_ => hs_.2.2.2.2.1) (fun hs_ => hs_.2.2.2.2.1)) (fun hn_ => (Kd.freshB jj.out k_ hn_)), Or.elim hk_ (fun hs_ => Or.elim hs_ (fun hs_ => hs_.2.2.2.2.2) (fun hs_ => hs_.2.2.2.2.2)) (fun hn_ => (Kd.freshB jh.out k_ hn_))⟩)) (below_size HB.out))
    replace ja := am (blk_below ja.out hb)
    replace jb := am (blk_below jb.out hb)
    replace ji := am (blk_below ji.out hb)
    replace jj := am (blk_below jj.out hb)
    replace jh := am (blk_below jh.out hb)
    replace HB := am (below_step HB.out hb)
    try clear hb
    try clear ho0
    obtain ⟨qQ, qR, eo80⟩ := Kd.V_slice qI.out
    (subst eo80)
    refine hK.out _ _ ⟨(blk_cell jh.out 0).trans rfl, (blk_cell jh.out 1).trans rfl, (blk_cell ja.out 0).trans rfl, (blk_cell ja.out 1).trans rfl, (blk_cell jb.out 0).trans rfl, (blk_cell jb.out 1).trans rfl⟩ (fun hHeld => ?_)
    clear hK K
    refine norm_ (a' := ?_) ?_ ?_
    rotate_left
    ·
     show Act.put _ (some 43) _ = _
     simp only [Act.put, sI_, s0_, s1_, i64_w, i32_w]
     rfl
    refine one_ (i := 6) (N := none) #[true, true, true, true, true, true, true, false] rfl rfl (one_of HT_.out (by kernel_rfl)) (by decide) (fun K hK => ?_)
    have uD : zg.cell? ⟨jf, 0, none⟩ = some (.int .i64 0) := (blk_cell ji.out 0).trans rfl
    have hfs77 := blk_frozen ji.out 0
    have hns77_0 := jk.out
    have hns77_1 := jl.out
    have hns77_3 := jv.out
    have hns77_4 := jo.out
    have hms77_0 := jz.out
    have hms77_1 := jA.out
    have hms77_3 := ju.out
    have hms77_4 := jq.out
    have uE : zg.cell? ⟨jf, 1, none⟩ = some (.slice none 0 0) := (blk_cell ji.out 1).trans rfl
    have hfs78 := blk_frozen ji.out 1
    have hns78_0 := jk.out
    have hns78_1 := jl.out
    have hns78_3 := jv.out
    have hns78_4 := jo.out
    have hms78_0 := jz.out
    have hms78_1 := jA.out
    have hms78_3 := ju.out
    have hms78_4 := jq.out
    refine skip_ (w1 := ?_) (by rfl) rfl ?_ ?_
    rotate_left
    ·
     go_simp
     rfl
    refine hK.out _ _ ⟨((cell_far (p := ⟨jf, _, none⟩) jo.out _).trans (((cell_far (p := ⟨jf, _, none⟩) jo.out _).trans (hHeld.1)))), ((cell_far (p := ⟨jf, _, none⟩) jo.out _).trans (((cell_far (p := ⟨jf, _, none⟩) jo.out _).trans (hHeld.2.1)))), ((cell_far (p := ⟨jf, _, none⟩) jk.out _).trans (((cell_far (p := ⟨jf, _, none⟩) jk.out _).trans (hHeld.2.2.1)))), ((cell_far (p := ⟨jf, _, none⟩) jk.out _).trans (((cell_far (p := ⟨jf, _, none⟩) jk.out _).trans (hHeld.2.2.2.1)))), ((cell_far (p := ⟨jf, _, none⟩) jl.out _).trans (((cell_far (p := ⟨jf, _, none⟩) jl.out _).trans (hHeld.2.2.2.2.1)))), ((cell_far (p := ⟨jf, _, none⟩) jl.out _).trans (((cell_far (p := ⟨jf, _, none⟩) jl.out _).trans (hHeld.2.2.2.2.2))))⟩ (fun hHeld => ?_)
    clear hK K
    refine one_ (i := 7) (N := none) #[true, true, true, true, true, true, true, true] rfl rfl (one_of HT_.out (by kernel_rfl)) (by decide) (fun K hK => ?_)
    have uF : zg.cell? ⟨jg, 0, none⟩ = some (.int .i64 0) := (blk_cell jj.out 0).trans rfl
    have hfs79 := blk_frozen jj.out 0
    have hns79_0 := jm.out
    have hns79_1 := jn.out
    have hns79_2 := ju.out
    have hns79_4 := jp.out
    have hms79_0 := jB.out
    have hms79_1 := jC.out
    have hms79_2 := jv.out
    have hms79_4 := jr.out
    have uG : zg.cell? ⟨jg, 1, none⟩ = some (.slice none 0 0) := (blk_cell jj.out 1).trans rfl
    have hfs81 := blk_frozen jj.out 1
    have hns81_0 := jm.out
    have hns81_1 := jn.out
    have hns81_2 := ju.out
    have hns81_4 := jp.out
    have hms81_0 := jB.out
    have hms81_1 := jC.out
    have hms81_2 := jv.out
    have hms81_4 := jr.out
    refine skip_ (w1 := ?_) (by rfl) rfl ?_ ?_
    rotate_left
    ·
     go_simp
     rfl
    refine hK.out _ _ ⟨((cell_far (p := ⟨jg, _, none⟩) jp.out _).trans (((cell_far (p := ⟨jg, _, none⟩) jp.out _).trans (hHeld.1)))), ((cell_far (p := ⟨jg, _, none⟩) jp.out _).trans (((cell_far (p := ⟨jg, _, none⟩) jp.out _).trans (hHeld.2.1)))), ((cell_far (p := ⟨jg, _, none⟩) jm.out _).trans (((cell_far (p := ⟨jg, _, none⟩) jm.out _).trans (hHeld.2.2.1)))), ((cell_far (p := ⟨jg, _, none⟩) jm.out _).trans (((cell_far (p := ⟨jg, _, none⟩) jm.out _).trans (hHeld.2.2.2.1)))), ((cell_far (p := ⟨jg, _, none⟩) jn.out _).trans (((cell_far (p := ⟨jg, _, none⟩) jn.out _).trans (hHeld.2.2.2.2.1)))), ((cell_far (p := ⟨jg, _, none⟩) jn.out _).trans (((cell_far (p := ⟨jg, _, none⟩) jn.out _).trans (hHeld.2.2.2.2.2))))⟩ (fun hHeld => ?_)
    clear hK K
    refine done_ (done_of HT_.out (by kernel_rfl)) ?_
    try go_wp2
    refine bodyPost_ret (results_cc rfl _ _ jf jg 33 33 #[.int .i64 jH, .slice jP jG.length jQ] #[.int .i64 qd, .slice qQ qi.length qR] (0, 0) (0, 0) _ _ rfl (by refine blk_far ?_ ju.out _; refine blk_far ?_ ju.out _; refine blk_put (cs := #[.int .i64 jH, .slice none 0 0]) ?_ 1 _ rfl; refine blk_put (cs := #[.int .i64 0, .slice none 0 0]) ?_ 0 _ rfl; exact ji.out) Try.underlying33 rfl (by kernel_rfl) rfl (by refine blk_put (cs := #[.int .i64 qd, .slice none 0 0]) ?_ 1 _ rfl; refine blk_put (cs := #[.int .i64 0, .slice none 0 0]) ?_ 0 _ rfl; refine blk_far ?_ jv.out _; refine blk_far ?_ jv.out _; exact jj.out) Try.underlying33 rfl (by kernel_rfl)) rfl ?_
    exact ⟨_, _, by rfl, by exact Kd.V_mono (Kd.V_far (p := ⟨jg, 1, none⟩) (Kd.V_far (p := ⟨jg, 0, none⟩) (Kd.V_far (p := ⟨jf, 1, none⟩) (Kd.V_far (p := ⟨jf, 0, none⟩) (Kd.V_mono (Kd.V_mono jd.out (fun k_ hk => (⟨hk, hk.2.2.2.1⟩ : _ ∧ k_ ≠ jf))) (fun k_ hk => (⟨hk, hk.1.2.2.2.2.1⟩ : _ ∧ k_ ≠ jg))) (fun _ hk => hk.1.2) (.int .i64 jH)) (fun _ hk => hk.1.2) (.slice jP jG.length jQ)) (fun _ hk => hk.2) (.int .i64 qd)) (fun _ hk => hk.2) (.slice qQ qi.length qR)) (fun _ hk => hk.1.1.1), by exact Kd.V_mono (Kd.V_far (p := ⟨jg, 1, none⟩) (Kd.V_far (p := ⟨jg, 0, none⟩) (Kd.V_far (p := ⟨jf, 1, none⟩) (Kd.V_far (p := ⟨jf, 0, none⟩) (Kd.V_mono (Kd.V_mono qI.out (fun k_ hk => (⟨hk, hk.2.2.2.1⟩ : _ ∧ k_ ≠ jf))) (fun k_ hk => (⟨hk, hk.1.2.2.2.2.1⟩ : _ ∧ k_ ≠ jg))) (fun _ hk => hk.1.2) (.int .i64 jH)) (fun _ hk => hk.1.2) (.slice jP jG.length jQ)) (fun _ hk => hk.2) (.int .i64 qd)) (fun _ hk => hk.2) (.slice qQ qi.length qR)) (fun _ hk => hk.1.1.1), by repeat ((with_reducible first | exact HB.out | refine below_set ?_ qF.out | refine below_set ?_ qG.out))⟩

end Go.Proofs.Ytmfmojldebhboaa.ZWhole
