-- printed by zprint.py, a program of this session's
import Derived.Test.YtmfmojldebhboaaZWhole0
namespace Go.Proofs.Ytmfmojldebhboaa.ZWhole
open Go.RowKit Go.Proofs.YtmfmojldebhboaaW.PrintWords Go.Proofs.YtmfmojldebhboaaW.PrintLast Go.Proofs.YtmfmojldebhboaaW.PrintMore
set_option linter.unusedVariables false
set_option linter.unusedSimpArgs false

/-! ### zelligelaw04_Short: function 11 -/
def zelligelaw04_Short.f (a0_0 : Bool) (l0_1 : List Int) : Option (Bool × List Int) := if (l0_1.length : Int) > 16 then (if 16 ≤ (l0_1.length : Int) then ((some (l0_1.take 16 : List Int)).bind fun jg => ((some (([] : List Int) : List Int)).bind fun jj => (if jj.length + jg.length < 35184372088832 then (some (a0_0, (jj ++ jg))) else (none)))) else (none)) else ((some (([] : List Int) : List Int)).bind fun jk => (if jk.length + l0_1.length < 35184372088832 then (some (a0_0, (jk ++ l0_1))) else (none)))
def zelligelaw04_Short.T3 : Bool × List (List Nat × List Nat) := (true, [([], []), ([0], [0]), ([], []), ([], []), ([3], [3]), ([2, 4], [2, 4]), ([1, 5], [1, 5]), ([6, 5, 0, 1, 2, 3, 4, 5, 6], [6])])
def zelligelaw04_Short.B3 : List Nat := [0, 1, 0, 0, 8, 28, 63, 127]
theorem zelligelaw04_Short.tab3 : rtab .any (opsOf Try.f11 3) = zelligelaw04_Short.T3 := by kernel_rfl
theorem zelligelaw04_Short.bits3 : waitsOk zelligelaw04_Short.T3.2 zelligelaw04_Short.B3 = true := by kernel_rfl
set_option maxHeartbeats 8000000 in
set_option maxRecDepth 100000 in
theorem zelligelaw04_Short.calls (a0_0 : Bool) (ji : Option Addr) (jh : Nat) (l0_1 : List Int) (r1 : Bool) (r2 : List Int) (w : World) (hr0_1 : Kd.C (Kd.int .u32) w ji l0_1.length l0_1) (hc0_1 : l0_1.length ≤ jh) (h : zelligelaw04_Short.f a0_0 l0_1 = some (r1, r2)) :
  Calls Try.prog 11 #[.agg #[.bool a0_0, .slice ji l0_1.length jh]] w fun e w' => ∃ v1_ : Value, e = .returned (.agg #[.bool r1, v1_]) ∧ Kd.R (Kd.int .u32) 78 w' w.heap.size (fun _ => True) v1_ r2 ∧ Below w.heap.size w w' := by
 have hu25 := Try.underlying25
 have jo := am hr0_1
 have jv := am hc0_1
 clear hr0_1 hc0_1
 have HB := am (Below.refl w.heap.size w)
 have H : (if (l0_1.length : Int) > 16 then (if 16 ≤ (l0_1.length : Int) then ((some (l0_1.take 16 : List Int)).bind fun jg => ((some (([] : List Int) : List Int)).bind fun jj => (if jj.length + jg.length < 35184372088832 then (some (a0_0, (jj ++ jg))) else (none)))) else (none)) else ((some (([] : List Int) : List Int)).bind fun jk => (if jk.length + l0_1.length < 35184372088832 then (some (a0_0, (jk ++ l0_1))) else (none)))) = some (r1, r2) := h
 clear h
 by_cases c2 : (l0_1.length : Int) > 16
 ·
  rw [if_pos c2] at H
  have c2b0 : decide (16 < (l0_1.length : Int)) = true := decide_eq_true c2
  have c2b1 : decide (16 < l0_1.length) = true := decide_eq_true (by omega)
  clear c2
  obtain ⟨c3, H⟩ := iteS H
  have c3b0 := eq_true c3
  have c3b1 : decide (16 ≤ (l0_1.length : Int)) = true := decide_eq_true c3
  clear c3
  obtain ⟨jg, hy103⟩ : ∃ y_ : List Int, y_ = (l0_1.take 16) := ⟨_, rfl⟩
  replace H : ((some (([] : List Int) : List Int)).bind fun jj => (if jj.length + jg.length < 35184372088832 then (some (a0_0, (jj ++ jg))) else (none))) = some (r1, r2) := by (have H2_ := (Option.bind_some _ _).symm.trans H; rw [hy103]; with_reducible exact H2_)
  have jp := am hy103
  clear hy103
  obtain ⟨jj, hy107⟩ : ∃ y_ : List Int, y_ = (([] : List Int)) := ⟨_, rfl⟩
  replace H : (if jj.length + jg.length < 35184372088832 then (some (a0_0, (jj ++ jg))) else (none)) = some (r1, r2) := by (have H2_ := (Option.bind_some _ _).symm.trans H; rw [hy107]; with_reducible exact H2_)
  have jw := am hy107
  clear hy107
  obtain ⟨c4, H⟩ := iteS H
  have LMc4 := am c4
  clear c4
  obtain ⟨jt, hy110⟩ : ∃ y_ : List Int, y_ = (jj ++ jg) := ⟨_, rfl⟩
  replace H : (some (a0_0, jt)) = some (r1, r2) := by (rw [hy110]; with_reducible exact H)
  have jx := am hy110
  clear hy110
  simp only [Option.some.injEq, Prod.mk.injEq] at H
  obtain ⟨rfl, rfl⟩ := H
  go_enter Try.func11, Try.ntmps11
  try go_wp2_with (first | ((with_reducible refine gate_dst (N := 1) rfl ?_); refine box_event ?hg (N := 1) ?hd (cs := #[.bool a0_0, .slice ji l0_1.length jh]) (t := 25) ?hr ?_; (case hd => rfl); (case hg => rfl); (case hr => (go_simp; done)); intro jf hg w5 hbox hb; have ja := am hbox; have jy := am (gel hg HB.out); have jq := am (gel hg HB.out); replace HB := am (below_step HB.out hb); clear hb hbox hg) | ((with_reducible refine gate_dst (N := 2) rfl ?_); refine box_event ?hg (N := 2) ?hd (cs := #[.bool false, .slice none 0 0]) (t := 25) ?hr ?_; (case hd => rfl); (case hg => rfl); (case hr => (go_simp; done)); intro jd hg w6 hbox hb; have jc := am hbox; have jz := am (gel hg HB.out); have jn := am (gel hg HB.out); replace HB := am (below_step HB.out hb); have jb := am (nel hg ja.out); have je := am (ner hg ja.out); replace ja := am (blk_below ja.out hb); clear hb hbox hg; have jY := jb.out; have jZ := je.out; have jL : w6.cell? ⟨jf, 0, none⟩ = some (.bool a0_0) := (blk_cell ja.out 0).trans rfl; have jM : w6.cell? ⟨jf, 1, none⟩ = some (.slice ji l0_1.length jh) := (blk_cell ja.out 1).trans rfl; have jN := blk_frozen ja.out 0; have jO := blk_frozen ja.out 1; have q9 : (16 : Int) ≤ ((l0_1.length : Int) : Int) := of_decide_eq_true (by (with_reducible assumption)); obtain ⟨i09, hi09, _, hsz9, _⟩ := info_parts info78; have hroom9 : l0_1.length ≤ jh := jv.out; have hC9 : Kd.C (Kd.int .u32) _ ji l0_1.length l0_1 := jo.out; have hcut9 := cut_to (P := Try.prog) 23 78 .i64 Try.underlying23 hi09 ji l0_1.length jh 16 (by omega) q9 hroom9; have hr9 := Kd.C_take (m := 16) hC9 (by omega); have hy9 : jg.length = (16 : Int).toNat := (by rw [jp.out, List.length_take]; omega); rw [← jp.out] at hr9; rw [← hy9] at hcut9; have jA := am hr9; have jS := am (show jg.length ≤ jh from by omega); clear hr9 hC9 hroom9 hi09 hsz9; have KY9 := am hy9; clear hy9; replace q9 := eq_true q9))
  have n0_ : Aside0 ((w6.setCell ⟨jf, 1, none⟩ (.slice ji jg.length jh)).heap[jf]? = some (.cells #[.bool a0_0, .slice ji jg.length jh] 25 (0, 0))) := ⟨by refine blk_put (cs := #[.bool a0_0, .slice ji l0_1.length jh]) ?_ 1 _ rfl; exact ja.out⟩
  have n1_ : Aside0 ((w6.setCell ⟨jf, 1, none⟩ (.slice ji jg.length jh)).heap[jd]? = some (.cells #[.bool false, .slice none 0 0] 25 (0, 0))) := ⟨by refine blk_far ?_ je.out _; exact jc.out⟩
  have n2_ : Aside0 (Below w.heap.size w (w6.setCell ⟨jf, 1, none⟩ (.slice ji jg.length jh))) := ⟨by repeat ((with_reducible first | exact HB.out | refine below_set ?_ jq.out))⟩
  try clear ja
  try clear jc
  (try clear HB)
  generalize (w6.setCell ⟨jf, 1, none⟩ (.slice ji jg.length jh)) = j0 at n0_ n1_ n2_ ⊢
  have ja := n0_
  have jc := n1_
  have HB := n2_
  clear n0_ n1_ n2_
  replace ja := am (blk_drew ja.out)
  replace jc := am (blk_drew jc.out)
  replace HB := am (below_drew1 HB.out)
  refine start_ (n := 8) (S := fun w' => w'.cell? ⟨jf, 0, none⟩ = some (.bool a0_0) ∧ w'.cell? ⟨jf, 1, none⟩ = some (.slice ji jg.length jh)) (ds := []) #[false, false, false, false, false, false, false, false] (by kernel_rfl) rfl rfl ⟨(blk_cell ja.out 0).trans rfl, (blk_cell ja.out 1).trans rfl⟩ (fun hHeld => ?_); refine with_tabW zelligelaw04_Short.tab3 zelligelaw04_Short.bits3 (fun HT_ HW_ => ?_)
  generalize j0.drew = j7 at ja jc HB hHeld ⊢
  refine pure_ (i := 0) (N := some 11) (v := ?_) (a' := ?_) #[true, false, false, false, false, false, false, false] rfl rfl (any_of HT_.out (by kernel_rfl)) (fun _ _ _ h => h) (Or.inl ⟨by rfl, ?_⟩) ?_ ?_
  rotate_left
  ·
   intro w'
   go_simp
   with_reducible rfl
  rotate_left
  ·
   simp only [Act.put, sI_, s0_, s1_, i64_w, i32_w]
   rfl
  refine pure_ (i := 3) (N := some 14) (v := ?_) (a' := ?_) #[true, false, false, true, false, false, false, false] rfl rfl (any_of HT_.out (by kernel_rfl)) (fun _ _ _ h => h) (Or.inl ⟨by rfl, ?_⟩) ?_ ?_
  rotate_left
  ·
   intro w'
   go_simp
   with_reducible rfl
  rotate_left
  ·
   simp only [Act.put, sI_, s0_, s1_, i64_w, i32_w]
   rfl
  refine take_ (i := 1) (N := some 12) (v := ?_) (a' := ?_) #[true, true, false, true, false, false, false, false] rfl rfl (take_ofW HT_.out HW_.out (by kernel_rfl)) (fun _ _ _ h => h) (Or.inl ⟨by rfl, ?_⟩) hHeld ?_ ?_
  rotate_left
  ·
   rintro w' ⟨s0, s1⟩
   go_simp
   with_reducible rfl
  rotate_left
  ·
   simp only [Act.put, sI_, s0_, s1_, i64_w, i32_w]
   rfl
  refine take_ (i := 4) (N := some 15) (v := ?_) (a' := ?_) #[true, true, false, true, true, false, false, false] rfl rfl (take_ofW HT_.out HW_.out (by kernel_rfl)) (fun _ _ _ h => h) (Or.inl ⟨by rfl, ?_⟩) hHeld ?_ ?_
  rotate_left
  ·
   rintro w' ⟨s0, s1⟩
   go_simp
   with_reducible rfl
  rotate_left
  ·
   simp only [Act.put, sI_, s0_, s1_, i64_w, i32_w]
   rfl
  refine one_ (i := 2) (N := some 13) #[true, true, true, true, true, false, false, false] rfl rfl (one_of HT_.out (by kernel_rfl)) (by decide) (fun K hK => ?_)
  refine Kd.R_lit_step (Kd.int .u32) _ 78 ?hg (N := 13) ?hd (xs := ([] : List Int)) (inner := []) (ok := fun _ => True) (okp := fun _ => True) ?hr ?hp (fun _ hk => hk) trivial (Below.refl _ _) (Nat.le_refl _) (by simp) ?_; (case hd => rfl); (case hg => rfl); (case hr => (go_simp; done)); (case hp => exact (Reps.none _ _))
  intro jP j8 ho13 hb hg_ hnew_
  clear hg_ hnew_
  (rw [← jw.out] at ho13)
  have jl := am (Kd.R_lower ho13 (below_size HB.out))
  replace ja := am (blk_below ja.out hb)
  replace jc := am (blk_below jc.out hb)
  replace HB := am (below_step HB.out hb)
  clear hb ho13
  refine hK.out _ _ ⟨(blk_cell ja.out 0).trans rfl, (blk_cell ja.out 1).trans rfl⟩ (fun hHeld => ?_)
  clear hK K
  refine norm_ (a' := ?_) ?_ ?_
  rotate_left
  ·
   show Act.put _ (some 13) _ = _
   simp only [Act.put, sI_, s0_, s1_, i64_w, i32_w]
   rfl
  refine one_ (i := 5) (N := some 16) #[true, true, true, true, true, true, false, false] rfl rfl (one_of HT_.out (by kernel_rfl)) (by decide) (fun K hK => ?_)
  refine Kd.R_append_rows_step (Kd.int .u32) (w0 := w) w.heap.size (by rfl) (.tmp 13) (.tmp 15) 23 78 (.int .u32 0) 4 rfl Try.underlying23 info78 rfl (by decide) (by omega) jP jj jg _ _ _ (fun _ => True) (fun _ => False) rfl rfl ?aO ?aR (fun _ _ h => h) (fun _ h => h.elim) ?aF ?aB ?aS ?aL ?_
  (case aR => repeat (exact (Kd.C_below jA.out HB.out)))
  (case aB => exact HB.out)
  (case aF => exact (fun _ _ => trivial))
  (case aO => exact jl.out)
  (case aS => exact (below_size HB.out))
  (case aL => have := LMc4.out; omega)
  intro j1 jT ho hb hg hat
  rw [← jx.out] at ho
  replace ja := am (blk_grown (g := jf) (o := .cells #[.bool a0_0, .slice ji jg.length jh] 25 (0, 0)) ja.out hg (Kd.R_ne jl.out ja.out (by decide)))
  replace jc := am (blk_grown (g := jd) (o := .cells #[.bool false, .slice none 0 0] 25 (0, 0)) jc.out hg (Kd.R_ne jl.out jc.out (by decide)))
  replace HB := am (hb)
  have jr := am ho
  clear jl
  clear ho hb hg hat
  obtain ⟨jB, jC, eo15⟩ := Kd.R_slice jr.out
  (subst eo15)
  refine hK.out _ _ ⟨(blk_cell ja.out 0).trans rfl, (blk_cell ja.out 1).trans rfl⟩ (fun hHeld => ?_)
  clear hK K
  refine norm_ (a' := ?_) ?_ ?_
  rotate_left
  ·
   show Act.put _ (some 16) _ = _
   simp only [Act.put, sI_, s0_, s1_, i64_w, i32_w]
   rfl
  refine pure_ (i := 6) (N := some 17) (v := ?_) (a' := ?_) #[true, true, true, true, true, true, true, false] rfl rfl (any_of HT_.out (by kernel_rfl)) (fun _ _ _ h => h) (Or.inl ⟨by rfl, ?_⟩) ?_ ?_
  rotate_left
  ·
   intro w'
   go_simp
   with_reducible rfl
  rotate_left
  ·
   simp only [Act.put, sI_, s0_, s1_, i64_w, i32_w]
   rfl
  refine one_ (i := 7) (N := none) #[true, true, true, true, true, true, true, true] rfl rfl (one_of HT_.out (by kernel_rfl)) (by decide) (fun K hK => ?_)
  have j2 : jT.cell? ⟨jd, 0, none⟩ = some (.bool false) := (blk_cell jc.out 0).trans rfl
  have hfs16 := blk_frozen jc.out 0
  have hns16_0 := jb.out
  have hms16_0 := je.out
  have j3 : jT.cell? ⟨jd, 1, none⟩ = some (.slice none 0 0) := (blk_cell jc.out 1).trans rfl
  have hfs17 := blk_frozen jc.out 1
  have hns17_0 := jb.out
  have hms17_0 := je.out
  refine skip_ (w1 := ?_) (by rfl) rfl ?_ ?_
  rotate_left
  ·
   go_simp
   rfl
  refine hK.out _ _ ⟨((cell_far (p := ⟨jd, _, none⟩) jb.out _).trans (((cell_far (p := ⟨jd, _, none⟩) jb.out _).trans (hHeld.1)))), ((cell_far (p := ⟨jd, _, none⟩) jb.out _).trans (((cell_far (p := ⟨jd, _, none⟩) jb.out _).trans (hHeld.2))))⟩ (fun hHeld => ?_)
  clear hK K
  refine done_ (done_of HT_.out (by kernel_rfl)) ?_
  try go_wp2
  refine bodyPost_ret (results_cell_row rfl _ _ jd 25 #[.bool a0_0, .slice jB jt.length jC] (0, 0) _ rfl (by refine blk_put (cs := #[.bool a0_0, .slice none 0 0]) ?_ 1 _ rfl; refine blk_put (cs := #[.bool false, .slice none 0 0]) ?_ 0 _ rfl; exact jc.out) Try.underlying25 rfl (by kernel_rfl)) rfl ?_
  exact ⟨_, by rfl, by exact Kd.R_mono (Kd.R_far (p := ⟨jd, 1, none⟩) (Kd.R_far (p := ⟨jd, 0, none⟩) (Kd.R_types jr.out jc.out (by decide)) (fun _ hk => hk.2) (.bool a0_0)) (fun _ hk => hk.2) (.slice jB jt.length jC)) (fun _ hk => trivial), by repeat ((with_reducible first | exact HB.out | refine below_set ?_ jn.out))⟩
 ·
  rw [if_neg c2] at H
  have c2b0 : decide (16 < (l0_1.length : Int)) = false := decide_eq_false c2
  have c2b1 : decide (16 < l0_1.length) = false := decide_eq_false (by omega)
  clear c2
  obtain ⟨jk, hy113⟩ : ∃ y_ : List Int, y_ = (([] : List Int)) := ⟨_, rfl⟩
  replace H : (if jk.length + l0_1.length < 35184372088832 then (some (a0_0, (jk ++ l0_1))) else (none)) = some (r1, r2) := by (have H2_ := (Option.bind_some _ _).symm.trans H; rw [hy113]; with_reducible exact H2_)
  have jD := am hy113
  clear hy113
  obtain ⟨jU, H⟩ := iteS H
  have LMc18 := am jU
  clear jU
  obtain ⟨ju, hy116⟩ : ∃ y_ : List Int, y_ = (jk ++ l0_1) := ⟨_, rfl⟩
  replace H : (some (a0_0, ju)) = some (r1, r2) := by (rw [hy116]; with_reducible exact H)
  have jE := am hy116
  clear hy116
  simp only [Option.some.injEq, Prod.mk.injEq] at H
  obtain ⟨rfl, rfl⟩ := H
  go_enter Try.func11, Try.ntmps11
  try go_wp2_with (first | ((with_reducible refine gate_dst (N := 1) rfl ?_); refine box_event ?hg (N := 1) ?hd (cs := #[.bool a0_0, .slice ji l0_1.length jh]) (t := 25) ?hr ?_; (case hd => rfl); (case hg => rfl); (case hr => (go_simp; done)); intro jf hg j9 hbox hb; have ja := am hbox; have jy := am (gel hg HB.out); have jq := am (gel hg HB.out); replace HB := am (below_step HB.out hb); clear hb hbox hg) | ((with_reducible refine gate_dst (N := 2) rfl ?_); refine box_event ?hg (N := 2) ?hd (cs := #[.bool false, .slice none 0 0]) (t := 25) ?hr ?_; (case hd => rfl); (case hg => rfl); (case hr => (go_simp; done)); intro jd hg jQ hbox hb; have jc := am hbox; have jz := am (gel hg HB.out); have jn := am (gel hg HB.out); replace HB := am (below_step HB.out hb); have jb := am (nel hg ja.out); have je := am (ner hg ja.out); replace ja := am (blk_below ja.out hb); clear hb hbox hg; have jV := jb.out; have jW := je.out; have jH : jQ.cell? ⟨jf, 0, none⟩ = some (.bool a0_0) := (blk_cell ja.out 0).trans rfl; have jI : jQ.cell? ⟨jf, 1, none⟩ = some (.slice ji l0_1.length jh) := (blk_cell ja.out 1).trans rfl; have jJ := blk_frozen ja.out 0; have jK := blk_frozen ja.out 1))
  replace ja := am (blk_drew ja.out)
  replace jc := am (blk_drew jc.out)
  replace HB := am (below_drew1 HB.out)
  refine start_ (n := 8) (S := fun w' => w'.cell? ⟨jf, 0, none⟩ = some (.bool a0_0) ∧ w'.cell? ⟨jf, 1, none⟩ = some (.slice ji l0_1.length jh)) (ds := []) #[false, false, false, false, false, false, false, false] (by kernel_rfl) rfl rfl ⟨(blk_cell ja.out 0).trans rfl, (blk_cell ja.out 1).trans rfl⟩ (fun hHeld => ?_); refine with_tabW zelligelaw04_Short.tab3 zelligelaw04_Short.bits3 (fun HT_ HW_ => ?_)
  generalize jQ.drew = qa at ja jc HB hHeld ⊢
  refine pure_ (i := 0) (N := some 11) (v := ?_) (a' := ?_) #[true, false, false, false, false, false, false, false] rfl rfl (any_of HT_.out (by kernel_rfl)) (fun _ _ _ h => h) (Or.inl ⟨by rfl, ?_⟩) ?_ ?_
  rotate_left
  ·
   intro w'
   go_simp
   with_reducible rfl
  rotate_left
  ·
   simp only [Act.put, sI_, s0_, s1_, i64_w, i32_w]
   rfl
  refine pure_ (i := 3) (N := some 14) (v := ?_) (a' := ?_) #[true, false, false, true, false, false, false, false] rfl rfl (any_of HT_.out (by kernel_rfl)) (fun _ _ _ h => h) (Or.inl ⟨by rfl, ?_⟩) ?_ ?_
  rotate_left
  ·
   intro w'
   go_simp
   with_reducible rfl
  rotate_left
  ·
   simp only [Act.put, sI_, s0_, s1_, i64_w, i32_w]
   rfl
  refine take_ (i := 1) (N := some 12) (v := ?_) (a' := ?_) #[true, true, false, true, false, false, false, false] rfl rfl (take_ofW HT_.out HW_.out (by kernel_rfl)) (fun _ _ _ h => h) (Or.inl ⟨by rfl, ?_⟩) hHeld ?_ ?_
  rotate_left
  ·
   rintro w' ⟨s0, s1⟩
   go_simp
   with_reducible rfl
  rotate_left
  ·
   simp only [Act.put, sI_, s0_, s1_, i64_w, i32_w]
   rfl
  refine take_ (i := 4) (N := some 15) (v := ?_) (a' := ?_) #[true, true, false, true, true, false, false, false] rfl rfl (take_ofW HT_.out HW_.out (by kernel_rfl)) (fun _ _ _ h => h) (Or.inl ⟨by rfl, ?_⟩) hHeld ?_ ?_
  rotate_left
  ·
   rintro w' ⟨s0, s1⟩
   go_simp
   with_reducible rfl
  rotate_left
  ·
   simp only [Act.put, sI_, s0_, s1_, i64_w, i32_w]
   rfl
  refine one_ (i := 2) (N := some 13) #[true, true, true, true, true, false, false, false] rfl rfl (one_of HT_.out (by kernel_rfl)) (by decide) (fun K hK => ?_)
  refine Kd.R_lit_step (Kd.int .u32) _ 78 ?hg (N := 13) ?hd (xs := ([] : List Int)) (inner := []) (ok := fun _ => True) (okp := fun _ => True) ?hr ?hp (fun _ hk => hk) trivial (Below.refl _ _) (Nat.le_refl _) (by simp) ?_; (case hd => rfl); (case hg => rfl); (case hr => (go_simp; done)); (case hp => exact (Reps.none _ _))
  intro jR qb ho25 hb hg_ hnew_
  clear hg_ hnew_
  (rw [← jD.out] at ho25)
  have jm := am (Kd.R_lower ho25 (below_size HB.out))
  replace ja := am (blk_below ja.out hb)
  replace jc := am (blk_below jc.out hb)
  replace HB := am (below_step HB.out hb)
  clear hb ho25
  refine hK.out _ _ ⟨(blk_cell ja.out 0).trans rfl, (blk_cell ja.out 1).trans rfl⟩ (fun hHeld => ?_)
  clear hK K
  refine norm_ (a' := ?_) ?_ ?_
  rotate_left
  ·
   show Act.put _ (some 13) _ = _
   simp only [Act.put, sI_, s0_, s1_, i64_w, i32_w]
   rfl
  refine one_ (i := 5) (N := some 16) #[true, true, true, true, true, true, false, false] rfl rfl (one_of HT_.out (by kernel_rfl)) (by decide) (fun K hK => ?_)
  refine Kd.R_append_rows_step (Kd.int .u32) (w0 := w) w.heap.size (by rfl) (.tmp 13) (.tmp 15) 23 78 (.int .u32 0) 4 rfl Try.underlying23 info78 rfl (by decide) (by omega) jR jk l0_1 _ _ _ (fun _ => True) (fun _ => False) rfl rfl ?aO ?aR (fun _ _ h => h) (fun _ h => h.elim) ?aF ?aB ?aS ?aL ?_
  (case aR => repeat (exact (Kd.C_below jo.out HB.out)))
  (case aB => exact HB.out)
  (case aF => exact (fun _ _ => trivial))
  (case aO => exact jm.out)
  (case aS => exact (below_size HB.out))
  (case aL => have := LMc18.out; omega)
  intro j4 jX ho hb hg hat
  rw [← jE.out] at ho
  replace ja := am (blk_grown (g := jf) (o := .cells #[.bool a0_0, .slice ji l0_1.length jh] 25 (0, 0)) ja.out hg (Kd.R_ne jm.out ja.out (by decide)))
  replace jc := am (blk_grown (g := jd) (o := .cells #[.bool false, .slice none 0 0] 25 (0, 0)) jc.out hg (Kd.R_ne jm.out jc.out (by decide)))
  replace HB := am (hb)
  have js := am ho
  clear jm
  clear ho hb hg hat
  obtain ⟨jF, jG, eo27⟩ := Kd.R_slice js.out
  (subst eo27)
  refine hK.out _ _ ⟨(blk_cell ja.out 0).trans rfl, (blk_cell ja.out 1).trans rfl⟩ (fun hHeld => ?_)
  clear hK K
  refine norm_ (a' := ?_) ?_ ?_
  rotate_left
  ·
   show Act.put _ (some 16) _ = _
   simp only [Act.put, sI_, s0_, s1_, i64_w, i32_w]
   rfl
  refine pure_ (i := 6) (N := some 17) (v := ?_) (a' := ?_) #[true, true, true, true, true, true, true, false] rfl rfl (any_of HT_.out (by kernel_rfl)) (fun _ _ _ h => h) (Or.inl ⟨by rfl, ?_⟩) ?_ ?_
  rotate_left
  ·
   intro w'
   go_simp
   with_reducible rfl
  rotate_left
  ·
   simp only [Act.put, sI_, s0_, s1_, i64_w, i32_w]
   rfl
  refine one_ (i := 7) (N := none) #[true, true, true, true, true, true, true, true] rfl rfl (one_of HT_.out (by kernel_rfl)) (by decide) (fun K hK => ?_)
  have j5 : jX.cell? ⟨jd, 0, none⟩ = some (.bool false) := (blk_cell jc.out 0).trans rfl
  have hfs28 := blk_frozen jc.out 0
  have hns28_0 := jb.out
  have hms28_0 := je.out
  have j6 : jX.cell? ⟨jd, 1, none⟩ = some (.slice none 0 0) := (blk_cell jc.out 1).trans rfl
  have hfs29 := blk_frozen jc.out 1
  have hns29_0 := jb.out
  have hms29_0 := je.out
  refine skip_ (w1 := ?_) (by rfl) rfl ?_ ?_
  rotate_left
  ·
   go_simp
   rfl
  refine hK.out _ _ ⟨((cell_far (p := ⟨jd, _, none⟩) jb.out _).trans (((cell_far (p := ⟨jd, _, none⟩) jb.out _).trans (hHeld.1)))), ((cell_far (p := ⟨jd, _, none⟩) jb.out _).trans (((cell_far (p := ⟨jd, _, none⟩) jb.out _).trans (hHeld.2))))⟩ (fun hHeld => ?_)
  clear hK K
  refine done_ (done_of HT_.out (by kernel_rfl)) ?_
  try go_wp2
  refine bodyPost_ret (results_cell_row rfl _ _ jd 25 #[.bool a0_0, .slice jF ju.length jG] (0, 0) _ rfl (by refine blk_put (cs := #[.bool a0_0, .slice none 0 0]) ?_ 1 _ rfl; refine blk_put (cs := #[.bool false, .slice none 0 0]) ?_ 0 _ rfl; exact jc.out) Try.underlying25 rfl (by kernel_rfl)) rfl ?_
  exact ⟨_, by rfl, by exact Kd.R_mono (Kd.R_far (p := ⟨jd, 1, none⟩) (Kd.R_far (p := ⟨jd, 0, none⟩) (Kd.R_types js.out jc.out (by decide)) (fun _ hk => hk.2) (.bool a0_0)) (fun _ hk => hk.2) (.slice jF ju.length jG)) (fun _ hk => trivial), by repeat ((with_reducible first | exact HB.out | refine below_set ?_ jn.out))⟩

end Go.Proofs.Ytmfmojldebhboaa.ZWhole
