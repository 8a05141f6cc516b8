-- printed by zprint.py, a program of this session's
import Derived.Test.YtmfmojldebhboaaZWhole0
import Derived.Test.YtmfmojldebhboaaZWholegQOf
import Derived.Test.YtmfmojldebhboaaZWholegQSub
namespace Go.Proofs.Ytmfmojldebhboaa.ZWhole
open Go.RowKit Go.Proofs.YtmfmojldebhboaaW.PrintWords Go.Proofs.YtmfmojldebhboaaW.PrintLast Go.Proofs.YtmfmojldebhboaaW.PrintMore
set_option linter.unusedVariables false
set_option linter.unusedSimpArgs false

/-! ### zelligeref04_Small: function 29 -/
mutual
def zelligeref04_Small.j0 : Nat → Int → Bool → Int → List Int → Option (Int × Bool)
 | 0, _, _, _, _ => none
 | k + 1, x4, x15, x855000, x855001 => if x15 = true then (some (0, false)) else (zelligeref04_Small.l0 k x4 (wrap64 ((x855001.length : Int) - 1)) x855000 x855001)
def zelligeref04_Small.l0 : Nat → Int → Int → Int → List Int → Option (Int × Bool)
 | 0, _, _, _, _ => none
 | k + 1, x4, x5, x855000, x855001 => if x5 ≥ 0 then (if 0 ≤ x5 then (if x5 < (x855001.length : Int) then (zelligeref04_Small.l0 k (wrap64 ((wrap64 (x4 * 65536)) - (rd x855001 x5))) (wrap64 (x5 - 1)) x855000 x855001) else (none)) else (none)) else (if x855000 > 0 then (some (wrap64 (-x4), true)) else (some (x4, true)))
end
def zelligeref04_Small.f (k : Nat) (a0_0 : Int) (l0_1 : List Int) : Option (Int × Bool) := (zelligeref04_Long.f k 9223372036854775807).bind fun bt855 => ((zelligeref04_Cmp.f k a0_0 l0_1 bt855.1 bt855.2).bind fun t859 => (if t859 > 0 then (zelligeref04_Small.j0 k 0 true a0_0 l0_1) else ((zelligeref04_Long.f k (-9223372036854775808)).bind fun bt860 => ((zelligeref04_Cmp.f k a0_0 l0_1 bt860.1 bt860.2).bind fun t864 => (zelligeref04_Small.j0 k 0 (decide (t864 < 0)) a0_0 l0_1)))))
theorem zelligeref04_Small.mono_l : ∀ k, (∀ y0 y1 y2 y3, LeO (zelligeref04_Small.j0 k y0 y1 y2 y3) (zelligeref04_Small.j0 (k + 1) y0 y1 y2 y3)) ∧ (∀ y0 y1 y2 y3, LeO (zelligeref04_Small.l0 k y0 y1 y2 y3) (zelligeref04_Small.l0 (k + 1) y0 y1 y2 y3))
 | 0 => ⟨fun _ _ _ _ r h => by simp [zelligeref04_Small.j0] at h, fun _ _ _ _ r h => by simp [zelligeref04_Small.l0] at h⟩
 | k + 1 => by
  obtain ⟨ih0, ih1⟩ := zelligeref04_Small.mono_l k
  refine ⟨?_, ?_⟩
  ·
   intro y0 y1 y2 y3
   unfold zelligeref04_Small.j0
   repeat' first
   | (with_reducible exact ih1 _ _ _ _)
   | (with_reducible exact LeO.refl _)
   | (with_reducible refine LeO.ite ?_ ?_)
  ·
   intro y0 y1 y2 y3
   unfold zelligeref04_Small.l0
   repeat' first
   | (with_reducible exact ih1 _ _ _ _)
   | (with_reducible exact LeO.refl _)
   | (with_reducible refine LeO.ite ?_ ?_)
theorem zelligeref04_Small.mono : ∀ a0 a1 k, LeO (zelligeref04_Small.f k a0 a1) (zelligeref04_Small.f (k + 1) a0 a1) := by
 intro a0 a1 k
 obtain ⟨ih0, ih1⟩ := zelligeref04_Small.mono_l k
 unfold zelligeref04_Small.f
 repeat' first
   | (with_reducible exact ih0 _ _ _ _)
   | (with_reducible exact zelligeref04_Cmp.mono _ _ _ _ _)
   | (with_reducible exact zelligeref04_Long.mono _ _)
   | (with_reducible refine LeO.ite ?_ ?_)
   | (with_reducible refine LeO.bind ?_ (fun _ => ?_))
def zelligeref04_Small.T2 : Bool × List (List Nat × List Nat) := (true, [([], []), ([], []), ([0, 1, 1], [0, 1]), ([2], [2]), ([3, 2], [3]), ([4], [4]), ([4, 4], [4]), ([5, 6, 6, 4], [4, 5, 6]), ([7, 4], [4, 7]), ([4, 8], [4, 8])])
def zelligeref04_Small.B2 : List Nat := [0, 0, 3, 7, 15, 31, 31, 127, 255, 511]
theorem zelligeref04_Small.tab2 : rtab .any (opsOf Try.f29 2) = zelligeref04_Small.T2 := by kernel_rfl
theorem zelligeref04_Small.bits2 : waitsOk zelligeref04_Small.T2.2 zelligeref04_Small.B2 = true := by kernel_rfl
set_option maxHeartbeats 8000000 in
set_option maxRecDepth 100000 in
theorem zelligeref04_Small.calls (k : Nat) (a0_0 : Int) (A0_1 : Option Addr) (c0_1 : Nat) (l0_1 : List Int) (r1 : Int) (r2 : Bool) (w : World) (hr0_1 : Kd.C (Kd.int .i64) w A0_1 l0_1.length l0_1) (hc0_1 : l0_1.length ≤ c0_1) (h : zelligeref04_Small.f k a0_0 l0_1 = some (r1, r2)) :
  Calls Try.prog 29 #[.agg #[.int .i64 a0_0, .slice A0_1 l0_1.length c0_1]] w fun e w' => e = .returned (.tuple #[.int .i64 r1, .bool r2]) ∧ Below w.heap.size w w' := by
 have hu33 := Try.underlying33
 have HR0_1 := am hr0_1
 have HC0_1 := am hc0_1
 clear hr0_1 hc0_1
 have HB := am (Below.refl w.heap.size w)
 have H : ((zelligeref04_Long.f k 9223372036854775807).bind fun bt855 => ((zelligeref04_Cmp.f k a0_0 l0_1 bt855.1 bt855.2).bind fun t859 => (if t859 > 0 then (zelligeref04_Small.j0 k 0 true a0_0 l0_1) else ((zelligeref04_Long.f k (-9223372036854775808)).bind fun bt860 => ((zelligeref04_Cmp.f k a0_0 l0_1 bt860.1 bt860.2).bind fun t864 => (zelligeref04_Small.j0 k 0 (decide (t864 < 0)) a0_0 l0_1)))))) = some (r1, r2) := h
 clear h
 have HC2 := am H
 clear H
 go_enter Try.func29, Try.ntmps29
 go_upto_region 2 with (((with_reducible refine gate_dst (N := 1) rfl ?_); refine box_event ?hg (N := 1) ?hd (cs := #[.int .i64 a0_0, .slice A0_1 l0_1.length c0_1]) (t := 33) ?hr ?_; (case hd => rfl); (case hg => rfl); (case hr => (go_simp; done)); intro gb854 hg w3 hbox hb; have BK854 := am hbox; have GW854 := am (gel hg HB.out); have GE854 := am (gel hg HB.out); replace HB := am (below_step HB.out hb); clear hb hbox hg))
 go_cut [15] (fun v15 wc => ∃ (kq : Nat) (x15_1 : Bool), v15 = .bool x15_1 ∧ Aside0 (zelligeref04_Small.j0 kq 0 x15_1 a0_0 l0_1 = some (r1, r2)) ∧ Aside0 (kq ≤ k) ∧ Aside0 (wc.heap[gb854]? = some (.cells #[.int .i64 a0_0, (.slice A0_1 l0_1.length c0_1)] 33 (0, 0))) ∧ Aside0 (Below w.heap.size w wc))
 case first =>
  have H := HC2.out
  clear HC2
  obtain ⟨⟨t855, t856⟩, A4, H⟩ := bindE H
  replace H : ((zelligeref04_Cmp.f k a0_0 l0_1 t855 t856).bind fun t859 => (if t859 > 0 then (zelligeref04_Small.j0 k 0 true a0_0 l0_1) else ((zelligeref04_Long.f k (-9223372036854775808)).bind fun bt860 => ((zelligeref04_Cmp.f k a0_0 l0_1 bt860.1 bt860.2).bind fun t864 => (zelligeref04_Small.j0 k 0 (decide (t864 < 0)) a0_0 l0_1))))) = some (r1, r2) := H
  obtain ⟨t859, A5, H⟩ := bindE H
  by_cases c6 : t859 > 0
  ·
   rw [if_pos c6] at H
   have c6b0 : decide (0 < t859) = true := decide_eq_true c6
   clear c6
   (skip)
   have H' := am H
   clear H
   try go_wp2
   replace BK854 := am (blk_drew BK854.out)
   replace HB := am (below_drew1 HB.out)
   refine start_ (n := 10) (S := fun w' => w'.cell? ⟨gb854, 0, none⟩ = some (.int .i64 a0_0) ∧ w'.cell? ⟨gb854, 1, none⟩ = some (.slice A0_1 l0_1.length c0_1)) (ds := []) #[false, false, false, false, false, false, false, false, false, false] (by kernel_rfl) rfl rfl ⟨(blk_cell BK854.out 0).trans rfl, (blk_cell BK854.out 1).trans rfl⟩ (fun hHeld => ?_); refine with_tabW zelligeref04_Small.tab2 zelligeref04_Small.bits2 (fun HT_ HW_ => ?_)
   generalize w3.drew = w7 at BK854 HB hHeld ⊢
   refine take_ (i := 0) (N := some 6) (v := ?_) (a' := ?_) #[true, false, false, false, false, false, false, false, false, false] rfl rfl (take_ofW HT_.out HW_.out (by kernel_rfl)) (fun _ _ _ h => h) (Or.inl ⟨by rfl, ?_⟩) hHeld ?_ ?_
   rotate_left
   ·
    rintro w' ⟨s0, s1⟩
    go_simp
    with_reducible rfl
   rotate_left
   ·
    simp only [Act.put, sI_, s0_, s1_, i64_w, i32_w]
    rfl
   refine one_ (i := 1) (N := some 7) #[true, true, false, false, false, false, false, false, false, false] rfl rfl (one_of HT_.out (by kernel_rfl)) (by decide) (fun K hK => ?_)
   refine goes_ Try.func38 (by kernel_rfl) rfl #[.int .i64 9223372036854775807] (by rfl) rfl rfl (by (try simp only [List.map_toArray, List.map_cons, List.map_nil]); rfl) ?_
   with_reducible refine (zelligeref04_Long.calls k 9223372036854775807 t855 t856 _ A4.out).mono ?_
   rintro e w8 ⟨v857, rfl, ho0, hb⟩
   refine ⟨_, rfl, ?_⟩
   have HO858 := am (Kd.R_lower ho0 (below_size HB.out))
   replace BK854 := am (blk_below BK854.out hb)
   replace HB := am (below_step HB.out hb)
   try clear hb
   try clear ho0
   obtain ⟨Ao9, co9, eo9⟩ := Kd.R_slice HO858.out
   (subst eo9)
   refine hK.out _ _ ⟨(blk_cell BK854.out 0).trans rfl, (blk_cell BK854.out 1).trans rfl⟩ (fun hHeld => ?_)
   clear hK K
   refine norm_ (a' := ?_) ?_ ?_
   rotate_left
   ·
    show Act.put _ (some 7) _ = _
    simp only [Act.put, sI_, s0_, s1_, i64_w, i32_w]
    rfl
   refine one_ (i := 2) (N := some 8) #[true, true, true, false, false, false, false, false, false, false] rfl rfl (one_of HT_.out (by kernel_rfl)) (by decide) (fun K hK => ?_)
   refine goes_ Try.func31 (by kernel_rfl) rfl #[.agg #[.int .i64 a0_0, .slice A0_1 l0_1.length c0_1], .agg #[.int .i64 t855, .slice Ao9 t856.length co9]] (by rfl) rfl rfl (by (try simp only [List.map_toArray, List.map_cons, List.map_nil]); rfl) ?_
   with_reducible refine (zelligeref04_Cmp.calls k a0_0 _ _ l0_1 t855 _ _ t856 t859 _ ?side1 ?side2 ?side3 ?side4 A5.out).mono ?_
   (case side1 => repeat (exact (Kd.C_below HR0_1.out HB.out)))
   (case side2 => exact HC0_1.out)
   (case side3 => exact (Kd.R_reads' HO858.out).2.2)
   (case side4 => exact (Kd.R_reads' HO858.out).2.1)
   rintro e w10 ⟨rfl, hb⟩
   refine ⟨_, rfl, ?_⟩
   replace HO858 := am (Kd.R_below HO858.out hb)
   replace BK854 := am (blk_below BK854.out hb)
   replace HB := am (below_step HB.out hb)
   (try clear hb)
   refine hK.out _ _ ⟨(blk_cell BK854.out 0).trans rfl, (blk_cell BK854.out 1).trans rfl⟩ (fun hHeld => ?_)
   clear hK K
   refine norm_ (a' := ?_) ?_ ?_
   rotate_left
   ·
    show Act.put _ (some 8) _ = _
    simp only [Act.put, sI_, s0_, s1_, i64_w, i32_w]
    rfl
   refine pure_ (i := 3) (N := some 9) (v := ?_) (a' := ?_) #[true, true, true, true, false, false, false, false, false, false] rfl rfl (any_of HT_.out (by kernel_rfl)) (fun _ _ _ h => h) (Or.inl ⟨by rfl, ?_⟩) ?_ ?_
   rotate_left
   ·
    intro w'
    go_simp
    with_reducible rfl
   rotate_left
   ·
    simp only [Act.put, sI_, s0_, s1_, i64_w, i32_w]
    rfl
   refine pure_ (i := 4) (N := some 10) (v := ?_) (a' := ?_) #[true, true, true, true, true, false, false, false, false, false] rfl rfl (any_of HT_.out (by kernel_rfl)) (fun _ _ _ h => h) (Or.inl ⟨by rfl, ?_⟩) ?_ ?_
   rotate_left
   ·
    intro w'
    go_simp
    with_reducible rfl
   rotate_left
   ·
    simp only [Act.put, sI_, s0_, s1_, i64_w, i32_w]
    rfl
   refine pure_ (i := 5) (N := some 11) (v := undef) (a' := ?_) #[true, true, true, true, true, true, false, false, false, false] rfl rfl (any_of HT_.out (by kernel_rfl)) (fun _ _ _ h => h) (Or.inr ⟨by rfl, rfl⟩) ?_ ?_
   rotate_left
   ·
    simp only [Act.put, sI_, s0_, s1_, i64_w, i32_w]
    rfl
   refine pure_ (i := 6) (N := some 12) (v := undef) (a' := ?_) #[true, true, true, true, true, true, true, false, false, false] rfl rfl (any_of HT_.out (by kernel_rfl)) (fun _ _ _ h => h) (Or.inr ⟨by rfl, rfl⟩) ?_ ?_
   rotate_left
   ·
    simp only [Act.put, sI_, s0_, s1_, i64_w, i32_w]
    rfl
   refine pure_ (i := 7) (N := some 13) (v := undef) (a' := ?_) #[true, true, true, true, true, true, true, true, false, false] rfl rfl (any_of HT_.out (by kernel_rfl)) (fun _ _ _ h => h) (Or.inr ⟨by rfl, rfl⟩) ?_ ?_
   rotate_left
   ·
    simp only [Act.put, sI_, s0_, s1_, i64_w, i32_w]
    rfl
   refine pure_ (i := 8) (N := some 14) (v := undef) (a' := ?_) #[true, true, true, true, true, true, true, true, true, false] rfl rfl (any_of HT_.out (by kernel_rfl)) (fun _ _ _ h => h) (Or.inr ⟨by rfl, rfl⟩) ?_ ?_
   rotate_left
   ·
    simp only [Act.put, sI_, s0_, s1_, i64_w, i32_w]
    rfl
   refine pure_ (i := 9) (N := some 15) (v := ?_) (a' := ?_) #[true, true, true, true, true, true, true, true, true, true] rfl rfl (any_of HT_.out (by kernel_rfl)) (fun _ _ _ h => h) (Or.inl ⟨by rfl, ?_⟩) ?_ ?_
   rotate_left
   ·
    intro w'
    go_simp
    with_reducible rfl
   rotate_left
   ·
    simp only [Act.put, sI_, s0_, s1_, i64_w, i32_w]
    rfl
   refine done_ (done_of HT_.out (by kernel_rfl)) ?_
   try go_wp2
   go_meet
   case rel => exact ⟨_, (true), (by rfl), H', ⟨by omega⟩, ⟨by exact BK854.out⟩, ⟨by with_reducible exact HB.out⟩⟩
  ·
   rw [if_neg c6] at H
   have c6b0 : decide (0 < t859) = false := decide_eq_false c6
   clear c6
   (skip)
   obtain ⟨⟨t860, t861⟩, A11, H⟩ := bindE H
   replace H : ((zelligeref04_Cmp.f k a0_0 l0_1 t860 t861).bind fun t864 => (zelligeref04_Small.j0 k 0 (decide (t864 < 0)) a0_0 l0_1)) = some (r1, r2) := H
   obtain ⟨t864, A12, H⟩ := bindE H
   have H' := am H
   clear H
   try go_wp2
   replace BK854 := am (blk_drew BK854.out)
   replace HB := am (below_drew1 HB.out)
   refine start_ (n := 10) (S := fun w' => w'.cell? ⟨gb854, 0, none⟩ = some (.int .i64 a0_0) ∧ w'.cell? ⟨gb854, 1, none⟩ = some (.slice A0_1 l0_1.length c0_1)) (ds := []) #[false, false, false, false, false, false, false, false, false, false] (by kernel_rfl) rfl rfl ⟨(blk_cell BK854.out 0).trans rfl, (blk_cell BK854.out 1).trans rfl⟩ (fun hHeld => ?_); refine with_tabW zelligeref04_Small.tab2 zelligeref04_Small.bits2 (fun HT_ HW_ => ?_)
   generalize w3.drew = w13 at BK854 HB hHeld ⊢
   refine take_ (i := 0) (N := some 6) (v := ?_) (a' := ?_) #[true, false, false, false, false, false, false, false, false, false] rfl rfl (take_ofW HT_.out HW_.out (by kernel_rfl)) (fun _ _ _ h => h) (Or.inl ⟨by rfl, ?_⟩) hHeld ?_ ?_
   rotate_left
   ·
    rintro w' ⟨s0, s1⟩
    go_simp
    with_reducible rfl
   rotate_left
   ·
    simp only [Act.put, sI_, s0_, s1_, i64_w, i32_w]
    rfl
   refine one_ (i := 1) (N := some 7) #[true, true, false, false, false, false, false, false, false, false] rfl rfl (one_of HT_.out (by kernel_rfl)) (by decide) (fun K hK => ?_)
   refine goes_ Try.func38 (by kernel_rfl) rfl #[.int .i64 9223372036854775807] (by rfl) rfl rfl (by (try simp only [List.map_toArray, List.map_cons, List.map_nil]); rfl) ?_
   with_reducible refine (zelligeref04_Long.calls k 9223372036854775807 t855 t856 _ A4.out).mono ?_
   rintro e w14 ⟨v857, rfl, ho0, hb⟩
   refine ⟨_, rfl, ?_⟩
   have HO858 := am (Kd.R_lower ho0 (below_size HB.out))
   replace BK854 := am (blk_below BK854.out hb)
   replace HB := am (below_step HB.out hb)
   try clear hb
   try clear ho0
   obtain ⟨Ao15, co15, eo15⟩ := Kd.R_slice HO858.out
   (subst eo15)
   refine hK.out _ _ ⟨(blk_cell BK854.out 0).trans rfl, (blk_cell BK854.out 1).trans rfl⟩ (fun hHeld => ?_)
   clear hK K
   refine norm_ (a' := ?_) ?_ ?_
   rotate_left
   ·
    show Act.put _ (some 7) _ = _
    simp only [Act.put, sI_, s0_, s1_, i64_w, i32_w]
    rfl
   refine one_ (i := 2) (N := some 8) #[true, true, true, false, false, false, false, false, false, false] rfl rfl (one_of HT_.out (by kernel_rfl)) (by decide) (fun K hK => ?_)
   refine goes_ Try.func31 (by kernel_rfl) rfl #[.agg #[.int .i64 a0_0, .slice A0_1 l0_1.length c0_1], .agg #[.int .i64 t855, .slice Ao15 t856.length co15]] (by rfl) rfl rfl (by (try simp only [List.map_toArray, List.map_cons, List.map_nil]); rfl) ?_
   with_reducible refine (zelligeref04_Cmp.calls k a0_0 _ _ l0_1 t855 _ _ t856 t859 _ ?side1 ?side2 ?side3 ?side4 A5.out).mono ?_
   (case side1 => repeat (exact (Kd.C_below HR0_1.out HB.out)))
   (case side2 => exact HC0_1.out)
   (case side3 => exact (Kd.R_reads' HO858.out).2.2)
   (case side4 => exact (Kd.R_reads' HO858.out).2.1)
   rintro e w16 ⟨rfl, hb⟩
   refine ⟨_, rfl, ?_⟩
   replace HO858 := am (Kd.R_below HO858.out hb)
   replace BK854 := am (blk_below BK854.out hb)
   replace HB := am (below_step HB.out hb)
   (try clear hb)
   refine hK.out _ _ ⟨(blk_cell BK854.out 0).trans rfl, (blk_cell BK854.out 1).trans rfl⟩ (fun hHeld => ?_)
   clear hK K
   refine norm_ (a' := ?_) ?_ ?_
   rotate_left
   ·
    show Act.put _ (some 8) _ = _
    simp only [Act.put, sI_, s0_, s1_, i64_w, i32_w]
    rfl
   refine pure_ (i := 3) (N := some 9) (v := ?_) (a' := ?_) #[true, true, true, true, false, false, false, false, false, false] rfl rfl (any_of HT_.out (by kernel_rfl)) (fun _ _ _ h => h) (Or.inl ⟨by rfl, ?_⟩) ?_ ?_
   rotate_left
   ·
    intro w'
    go_simp
    with_reducible rfl
   rotate_left
   ·
    simp only [Act.put, sI_, s0_, s1_, i64_w, i32_w]
    rfl
   refine pure_ (i := 4) (N := some 10) (v := ?_) (a' := ?_) #[true, true, true, true, true, false, false, false, false, false] rfl rfl (any_of HT_.out (by kernel_rfl)) (fun _ _ _ h => h) (Or.inl ⟨by rfl, ?_⟩) ?_ ?_
   rotate_left
   ·
    intro w'
    go_simp
    with_reducible rfl
   rotate_left
   ·
    simp only [Act.put, sI_, s0_, s1_, i64_w, i32_w]
    rfl
   refine take_ (i := 5) (N := some 11) (v := ?_) (a' := ?_) #[true, true, true, true, true, true, false, false, false, false] rfl rfl (take_ofW HT_.out HW_.out (by kernel_rfl)) (fun _ _ _ h => h) (Or.inl ⟨by rfl, ?_⟩) hHeld ?_ ?_
   rotate_left
   ·
    rintro w' ⟨s0, s1⟩
    go_simp
    with_reducible rfl
   rotate_left
   ·
    simp only [Act.put, sI_, s0_, s1_, i64_w, i32_w]
    rfl
   refine one_ (i := 6) (N := some 12) #[true, true, true, true, true, true, true, false, false, false] rfl rfl (one_of HT_.out (by kernel_rfl)) (by decide) (fun K hK => ?_)
   refine goes_ Try.func38 (by kernel_rfl) rfl #[.int .i64 (-9223372036854775808)] (by rfl) rfl rfl (by (try simp only [List.map_toArray, List.map_cons, List.map_nil]); rfl) ?_
   with_reducible refine (zelligeref04_Long.calls k (-9223372036854775808) t860 t861 _ A11.out).mono ?_
   rintro e w17 ⟨v862, rfl, ho0, hb⟩
   refine ⟨_, rfl, ?_⟩
   have HO863 := am (Kd.R_lower (Kd.R_new' ho0 (Kd.R_lt HO858.out)) (below_size HB.out))
   replace HO858 := am (Kd.R_elder' HO858.out (Kd.R_base ho0) hb)
   replace BK854 := am (blk_below BK854.out hb)
   replace HB := am (below_step HB.out hb)
   try clear hb
   try clear ho0
   obtain ⟨Ao18, co18, eo18⟩ := Kd.R_slice HO863.out
   (subst eo18)
   refine hK.out _ _ ⟨(blk_cell BK854.out 0).trans rfl, (blk_cell BK854.out 1).trans rfl⟩ (fun hHeld => ?_)
   clear hK K
   refine norm_ (a' := ?_) ?_ ?_
   rotate_left
   ·
    show Act.put _ (some 12) _ = _
    simp only [Act.put, sI_, s0_, s1_, i64_w, i32_w]
    rfl
   refine one_ (i := 7) (N := some 13) #[true, true, true, true, true, true, true, true, false, false] rfl rfl (one_of HT_.out (by kernel_rfl)) (by decide) (fun K hK => ?_)
   refine goes_ Try.func31 (by kernel_rfl) rfl #[.agg #[.int .i64 a0_0, .slice A0_1 l0_1.length c0_1], .agg #[.int .i64 t860, .slice Ao18 t861.length co18]] (by rfl) rfl rfl (by (try simp only [List.map_toArray, List.map_cons, List.map_nil]); rfl) ?_
   with_reducible refine (zelligeref04_Cmp.calls k a0_0 _ _ l0_1 t860 _ _ t861 t864 _ ?side1 ?side2 ?side3 ?side4 A12.out).mono ?_
   (case side1 => repeat (exact (Kd.C_below HR0_1.out HB.out)))
   (case side2 => exact HC0_1.out)
   (case side3 => exact (Kd.R_reads' HO863.out).2.2)
   (case side4 => exact (Kd.R_reads' HO863.out).2.1)
   rintro e w19 ⟨rfl, hb⟩
   refine ⟨_, rfl, ?_⟩
   replace HO858 := am (Kd.R_below HO858.out hb)
   replace HO863 := am (Kd.R_below HO863.out hb)
   replace BK854 := am (blk_below BK854.out hb)
   replace HB := am (below_step HB.out hb)
   (try clear hb)
   refine hK.out _ _ ⟨(blk_cell BK854.out 0).trans rfl, (blk_cell BK854.out 1).trans rfl⟩ (fun hHeld => ?_)
   clear hK K
   refine norm_ (a' := ?_) ?_ ?_
   rotate_left
   ·
    show Act.put _ (some 13) _ = _
    simp only [Act.put, sI_, s0_, s1_, i64_w, i32_w]
    rfl
   refine pure_ (i := 8) (N := some 14) (v := ?_) (a' := ?_) #[true, true, true, true, true, true, true, true, true, false] rfl rfl (any_of HT_.out (by kernel_rfl)) (fun _ _ _ h => h) (Or.inl ⟨by rfl, ?_⟩) ?_ ?_
   rotate_left
   ·
    intro w'
    go_simp
    with_reducible rfl
   rotate_left
   ·
    simp only [Act.put, sI_, s0_, s1_, i64_w, i32_w]
    rfl
   refine pure_ (i := 9) (N := some 15) (v := ?_) (a' := ?_) #[true, true, true, true, true, true, true, true, true, true] rfl rfl (any_of HT_.out (by kernel_rfl)) (fun _ _ _ h => h) (Or.inl ⟨by rfl, ?_⟩) ?_ ?_
   rotate_left
   ·
    intro w'
    go_simp
    with_reducible rfl
   rotate_left
   ·
    simp only [Act.put, sI_, s0_, s1_, i64_w, i32_w]
    rfl
   refine done_ (done_of HT_.out (by kernel_rfl)) ?_
   try go_wp2
   go_meet
   case rel => exact ⟨_, (decide (t864 < 0)), (by rfl), H', ⟨by omega⟩, ⟨by exact BK854.out⟩, ⟨by with_reducible exact HB.out⟩⟩
 case rest =>
  clear HC2
  obtain ⟨kq, x15_1, rfl, HA, HJ1, BK854, HB⟩ := hcut
  cases kq with
  | zero => exact absurd HA.out (by simp [zelligeref04_Small.j0])
  | succ kj1 =>
   have H := HA.out
   clear HA
   simp only [zelligeref04_Small.j0] at H
   by_cases c20 : x15_1 = true
   ·
    subst c20
    rw [if_pos rfl] at H
    simp only [Option.some.injEq, Prod.mk.injEq] at H
    obtain ⟨rfl, rfl⟩ := H
    go_wp2
    go_ret2
    exact ⟨by rfl, by with_reducible exact HB.out⟩
   ·
    replace c20 := Bool.eq_false_iff.mpr c20
    subst c20
    rw [if_neg (show ¬ (false = true) by decide)] at H
    have H' := am H
    clear H
    have hcz21_0 : wc.cell? ⟨gb854, 0, none⟩ = some (.int .i64 a0_0) := (blk_cell BK854.out 0).trans rfl
    have hcz21_1 : wc.cell? ⟨gb854, 1, none⟩ = some (.slice A0_1 l0_1.length c0_1) := (blk_cell BK854.out 1).trans rfl
    have hfz21_0 := blk_frozen BK854.out 0
    have hfz21_1 := blk_frozen BK854.out 1
    go_wp2
    go_loopg [4, 5] kj1 (fun kq v4 v5 w' => ∃ (x4_2 : Int) (x5_2 : Int), v4 = .int .i64 x4_2 ∧ v5 = .int .i64 x5_2 ∧ Aside0 (zelligeref04_Small.l0 kq x4_2 x5_2 a0_0 l0_1 = some (r1, r2)) ∧ Aside0 (kq ≤ kj1) ∧ Aside0 (w'.heap[gb854]? = some (.cells #[.int .i64 a0_0, (.slice A0_1 l0_1.length c0_1)] 33 (0, 0))) ∧ Aside0 (Below w.heap.size w w'))
    case atStart => exact ⟨(0), (wrap64 ((l0_1.length : Int) - 1)), (by rfl), (by rfl), H', ⟨Nat.le_refl _⟩, ⟨by exact BK854.out⟩, ⟨by with_reducible exact HB.out⟩⟩
    case round =>
     clear H'
     try clear hcz21_0
     try clear hcz21_1
     try clear hfz21_0
     try clear hfz21_1
     obtain ⟨x4_2, x5_2, rfl, rfl, HA, HK2, BK854, HB⟩ := hrel
     cases gk with
     | zero => exact absurd HA.out (by simp [zelligeref04_Small.l0])
     | succ k2 =>
      have H := HA.out
      clear HA
      simp only [zelligeref04_Small.l0] at H
      by_cases c22 : x5_2 ≥ 0
      ·
       rw [if_pos c22] at H
       have c22b0 : decide (0 ≤ x5_2) = true := decide_eq_true c22
       clear c22
       obtain ⟨c23, H⟩ := iteS H
       have c23b0 : decide (0 ≤ x5_2) = true := decide_eq_true c23
       clear c23
       obtain ⟨c24, H⟩ := iteS H
       have c24b0 : decide (x5_2 < (l0_1.length : Int)) = true := decide_eq_true c24
       clear c24
       have H' := am H
       clear H
       have hcz25_0 : wr.cell? ⟨gb854, 0, none⟩ = some (.int .i64 a0_0) := (blk_cell BK854.out 0).trans rfl
       have hcz25_1 : wr.cell? ⟨gb854, 1, none⟩ = some (.slice A0_1 l0_1.length c0_1) := (blk_cell BK854.out 1).trans rfl
       have hfz25_0 := blk_frozen BK854.out 0
       have hfz25_1 := blk_frozen BK854.out 1
       have p865 : 0 ≤ (x5_2 : Int) := of_decide_eq_true (by (with_reducible assumption))
       have q865 : x5_2 < (l0_1.length : Int) := of_decide_eq_true (by (with_reducible assumption))
       obtain ⟨ad865, e865, hx865_0⟩ := Kd.at_int HR0_1.out x5_2 p865 q865
       cases e865
       replace hx865_0 := (HB.out.cell (World.block_lt_of_cell? w _ hx865_0)).trans hx865_0
       replace p865 := eq_true p865
       replace q865 := eq_true q865
       go_wp2
       go_roundg k2
       case measure => have := HJ1.out; have := HK2.out; omega
       case rel => exact ⟨(wrap64 ((wrap64 (x4_2 * 65536)) - (rd l0_1 x5_2))), (wrap64 (x5_2 - 1)), (by rfl), (by rfl), H', ⟨by have := HJ1.out; have := HK2.out; omega⟩, ⟨by exact BK854.out⟩, ⟨by with_reducible exact HB.out⟩⟩
      ·
       rw [if_neg c22] at H
       have c22b0 : decide (0 ≤ x5_2) = false := decide_eq_false c22
       clear c22
       by_cases c26 : a0_0 > 0
       ·
        rw [if_pos c26] at H
        have c26b0 : decide (0 < a0_0) = true := decide_eq_true c26
        clear c26
        simp only [Option.some.injEq, Prod.mk.injEq] at H
        obtain ⟨rfl, rfl⟩ := H
        have hcz27_0 : wr.cell? ⟨gb854, 0, none⟩ = some (.int .i64 a0_0) := (blk_cell BK854.out 0).trans rfl
        have hcz27_1 : wr.cell? ⟨gb854, 1, none⟩ = some (.slice A0_1 l0_1.length c0_1) := (blk_cell BK854.out 1).trans rfl
        have hfz27_0 := blk_frozen BK854.out 0
        have hfz27_1 := blk_frozen BK854.out 1
        go_wp2
        go_ret2
        exact ⟨by rfl, by with_reducible exact HB.out⟩
       ·
        rw [if_neg c26] at H
        have c26b0 : decide (0 < a0_0) = false := decide_eq_false c26
        clear c26
        simp only [Option.some.injEq, Prod.mk.injEq] at H
        obtain ⟨rfl, rfl⟩ := H
        have hcz28_0 : wr.cell? ⟨gb854, 0, none⟩ = some (.int .i64 a0_0) := (blk_cell BK854.out 0).trans rfl
        have hcz28_1 : wr.cell? ⟨gb854, 1, none⟩ = some (.slice A0_1 l0_1.length c0_1) := (blk_cell BK854.out 1).trans rfl
        have hfz28_0 := blk_frozen BK854.out 0
        have hfz28_1 := blk_frozen BK854.out 1
        go_wp2
        go_ret2
        exact ⟨by rfl, by with_reducible exact HB.out⟩

end Go.Proofs.Ytmfmojldebhboaa.ZWhole
