-- printed by zprint.py, a program of this session's
import Derived.Test.YtmfmojldebhboaaZWhole0
import Derived.Test.YtmfmojldebhboaaZWholegAdd
import Derived.Test.YtmfmojldebhboaaZWholegSize
namespace Go.Proofs.Ytmfmojldebhboaa.ZWhole
open Go.RowKit Go.Proofs.YtmfmojldebhboaaW.PrintWords Go.Proofs.YtmfmojldebhboaaW.PrintLast Go.Proofs.YtmfmojldebhboaaW.PrintMore
set_option linter.unusedVariables false
set_option linter.unusedSimpArgs false

/-! ### whole_add: function 48 -/
def whole_add.f (k : Nat) (a0_0 : Bool) (l0_1 : List Int) (a1_0 : Bool) (l1_1 : List Int) : Option (Bool × List Int) := if (a0_0 == a1_0) = true then ((nat_Add.f k l0_1 l1_1).bind fun t349 => ((whole_norm.f k a0_0 t349).bind fun bt352 => (some (bt352.1, bt352.2)))) else ((nat_Sub.f k l0_1 l1_1).bind fun bt356 => (if bt356.2 = true then ((whole_norm.f k a0_0 bt356.1).bind fun bt360 => (some (bt360.1, bt360.2))) else ((nat_Sub.f k l1_1 l0_1).bind fun bt364 => ((whole_norm.f k a1_0 bt364.1).bind fun bt368 => (some (bt368.1, bt368.2))))))
theorem whole_add.mono : ∀ a0 a1 a2 a3 k, LeO (whole_add.f k a0 a1 a2 a3) (whole_add.f (k + 1) a0 a1 a2 a3) := by
 intro a0 a1 a2 a3 k
 unfold whole_add.f
 repeat' first
   | (with_reducible exact nat_Add.mono _ _ _)
   | (with_reducible exact nat_Sub.mono _ _ _)
   | (with_reducible exact whole_norm.mono _ _ _)
   | (with_reducible exact LeO.refl _)
   | (with_reducible refine LeO.ite ?_ ?_)
   | (with_reducible refine LeO.bind ?_ (fun _ => ?_))
def whole_add.T2 : Bool × List (List Nat × List Nat) := (true, [([], []), ([0], [0]), ([], []), ([2], [2]), ([], []), ([4], [4]), ([3, 5], [3, 5]), ([1, 6, 6], [1, 6]), ([7, 7, 0, 1, 2, 3, 4, 5, 6, 7], [7])])
def whole_add.B2 : List Nat := [0, 1, 0, 4, 0, 16, 60, 127, 255]
theorem whole_add.tab2 : rtab .any (opsOf Try.f48 2) = whole_add.T2 := by kernel_rfl
theorem whole_add.bits2 : waitsOk whole_add.T2.2 whole_add.B2 = true := by kernel_rfl
set_option maxHeartbeats 8000000 in
set_option maxRecDepth 100000 in
theorem whole_add.calls (k : Nat) (a0_0 : Bool) (A0_1 : Option Addr) (c0_1 : Nat) (l0_1 : List Int) (a1_0 : Bool) (A1_1 : Option Addr) (c1_1 : Nat) (l1_1 : List Int) (r1 : Bool) (r2 : List Int) (w : World) (hr0_1 : Kd.C (Kd.int .u32) w A0_1 l0_1.length l0_1) (hc0_1 : l0_1.length ≤ c0_1) (hr1_1 : Kd.C (Kd.int .u32) w A1_1 l1_1.length l1_1) (hc1_1 : l1_1.length ≤ c1_1) (h : whole_add.f k a0_0 l0_1 a1_0 l1_1 = some (r1, r2)) :
  Calls Try.prog 48 #[.agg #[.bool a0_0, .slice A0_1 l0_1.length c0_1], .agg #[.bool a1_0, .slice A1_1 l1_1.length c1_1]] w fun e w' => ∃ v1_ : Value, e = .returned (.agg #[.bool r1, v1_]) ∧ Kd.R (Kd.int .u32) 78 w' w.heap.size (fun _ => True) v1_ r2 ∧ Below w.heap.size w w' := by
 have hu25 := Try.underlying25
 have HR0_1 := am hr0_1
 have HC0_1 := am hc0_1
 clear hr0_1 hc0_1
 have HR1_1 := am hr1_1
 have HC1_1 := am hc1_1
 clear hr1_1 hc1_1
 have HB := am (Below.refl w.heap.size w)
 have H : (if (a0_0 == a1_0) = true then ((nat_Add.f k l0_1 l1_1).bind fun t349 => ((whole_norm.f k a0_0 t349).bind fun bt352 => (some (bt352.1, bt352.2)))) else ((nat_Sub.f k l0_1 l1_1).bind fun bt356 => (if bt356.2 = true then ((whole_norm.f k a0_0 bt356.1).bind fun bt360 => (some (bt360.1, bt360.2))) else ((nat_Sub.f k l1_1 l0_1).bind fun bt364 => ((whole_norm.f k a1_0 bt364.1).bind fun bt368 => (some (bt368.1, bt368.2))))))) = some (r1, r2) := h
 clear h
 by_cases c3 : (a0_0 == a1_0) = true
 ·
  rw [if_pos c3] at H
  have c3b0 : (a0_0 == a1_0) = true := c3
  (try (have c3b1 : decide (a0_0 = a1_0) = true := by simpa using c3))
  (try (have c3b2 : (a0_0 == a1_0) = true := by simpa using c3))
  clear c3
  obtain ⟨t349, A4, H⟩ := bindE H
  obtain ⟨⟨t352, t353⟩, A5, H⟩ := bindE H
  replace H : (some (t352, t353)) = some (r1, r2) := H
  simp only [Option.some.injEq, Prod.mk.injEq] at H
  obtain ⟨rfl, rfl⟩ := H
  go_enter Try.func48, Try.ntmps48
  try go_wp2_with (first | ((with_reducible refine gate_dst (N := 2) rfl ?_); refine box_event ?hg (N := 2) ?hd (cs := #[.bool a0_0, .slice A0_1 l0_1.length c0_1]) (t := 25) ?hr ?_; (case hd => rfl); (case hg => rfl); (case hr => (go_simp; done)); intro gb346 hg w6 hbox hb; have BK346 := am hbox; have GW346 := am (gel hg HB.out); have GE346 := am (gel hg HB.out); replace HB := am (below_step HB.out hb); clear hb hbox hg) | ((with_reducible refine gate_dst (N := 3) rfl ?_); refine box_event ?hg (N := 3) ?hd (cs := #[.bool a1_0, .slice A1_1 l1_1.length c1_1]) (t := 25) ?hr ?_; (case hd => rfl); (case hg => rfl); (case hr => (go_simp; done)); intro gb347 hg w7 hbox hb; have BK347 := am hbox; have GW347 := am (gel hg HB.out); have GE347 := am (gel hg HB.out); replace HB := am (below_step HB.out hb); have NB346_347 := am (nel hg BK346.out); have NB347_346 := am (ner hg BK346.out); replace BK346 := am (blk_below BK346.out hb); clear hb hbox hg) | ((with_reducible refine gate_dst (N := 4) rfl ?_); refine box_event ?hg (N := 4) ?hd (cs := #[.bool false, .slice none 0 0]) (t := 25) ?hr ?_; (case hd => rfl); (case hg => rfl); (case hr => (go_simp; done)); intro gb348 hg w8 hbox hb; have BK348 := am hbox; have GW348 := am (gel hg HB.out); have GE348 := am (gel hg HB.out); replace HB := am (below_step HB.out hb); have NB346_348 := am (nel hg BK346.out); have NB348_346 := am (ner hg BK346.out); replace BK346 := am (blk_below BK346.out hb); have NB347_348 := am (nel hg BK347.out); have NB348_347 := am (ner hg BK347.out); replace BK347 := am (blk_below BK347.out hb); clear hb hbox hg; have hnb9 := NB346_347.out; have hnc9 := NB347_346.out; have hnb10 := NB346_348.out; have hnc10 := NB348_346.out; have hcz11_0 : w8.cell? ⟨gb346, 0, none⟩ = some (.bool a0_0) := (blk_cell BK346.out 0).trans rfl; have hcz11_1 : w8.cell? ⟨gb346, 1, none⟩ = some (.slice A0_1 l0_1.length c0_1) := (blk_cell BK346.out 1).trans rfl; have hfz11_0 := blk_frozen BK346.out 0; have hfz11_1 := blk_frozen BK346.out 1; have hnb12 := NB347_348.out; have hnc12 := NB348_347.out; have hcz13_0 : w8.cell? ⟨gb347, 0, none⟩ = some (.bool a1_0) := (blk_cell BK347.out 0).trans rfl; have hcz13_1 : w8.cell? ⟨gb347, 1, none⟩ = some (.slice A1_1 l1_1.length c1_1) := (blk_cell BK347.out 1).trans rfl; have hfz13_0 := blk_frozen BK347.out 0; have hfz13_1 := blk_frozen BK347.out 1))
  replace BK346 := am (blk_drew BK346.out)
  replace BK347 := am (blk_drew BK347.out)
  replace BK348 := am (blk_drew BK348.out)
  replace HB := am (below_drew1 HB.out)
  refine start_ (n := 9) (S := fun w' => w'.cell? ⟨gb346, 0, none⟩ = some (.bool a0_0) ∧ w'.cell? ⟨gb346, 1, none⟩ = some (.slice A0_1 l0_1.length c0_1) ∧ w'.cell? ⟨gb347, 0, none⟩ = some (.bool a1_0) ∧ w'.cell? ⟨gb347, 1, none⟩ = some (.slice A1_1 l1_1.length c1_1)) (ds := []) #[false, false, false, false, false, false, false, false, false] (by kernel_rfl) rfl rfl ⟨(blk_cell BK346.out 0).trans rfl, (blk_cell BK346.out 1).trans rfl, (blk_cell BK347.out 0).trans rfl, (blk_cell BK347.out 1).trans rfl⟩ (fun hHeld => ?_); refine with_tabW whole_add.tab2 whole_add.bits2 (fun HT_ HW_ => ?_)
  generalize w8.drew = w14 at BK346 BK347 BK348 HB hHeld ⊢
  refine pure_ (i := 0) (N := some 14) (v := ?_) (a' := ?_) #[true, false, false, false, false, false, false, false, false] rfl rfl (any_of HT_.out (by kernel_rfl)) (fun _ _ _ h => h) (Or.inl ⟨by rfl, ?_⟩) ?_ ?_
  rotate_left
  ·
   intro w'
   go_simp
   with_reducible rfl
  rotate_left
  ·
   simp only [Act.put, sI_, s0_, s1_, i64_w, i32_w]
   rfl
  refine pure_ (i := 2) (N := some 16) (v := ?_) (a' := ?_) #[true, false, true, false, false, false, false, false, false] rfl rfl (any_of HT_.out (by kernel_rfl)) (fun _ _ _ h => h) (Or.inl ⟨by rfl, ?_⟩) ?_ ?_
  rotate_left
  ·
   intro w'
   go_simp
   with_reducible rfl
  rotate_left
  ·
   simp only [Act.put, sI_, s0_, s1_, i64_w, i32_w]
   rfl
  refine pure_ (i := 4) (N := some 18) (v := ?_) (a' := ?_) #[true, false, true, false, true, false, false, false, false] rfl rfl (any_of HT_.out (by kernel_rfl)) (fun _ _ _ h => h) (Or.inl ⟨by rfl, ?_⟩) ?_ ?_
  rotate_left
  ·
   intro w'
   go_simp
   with_reducible rfl
  rotate_left
  ·
   simp only [Act.put, sI_, s0_, s1_, i64_w, i32_w]
   rfl
  refine take_ (i := 1) (N := some 15) (v := ?_) (a' := ?_) #[true, true, true, false, true, false, false, false, false] rfl rfl (take_ofW HT_.out HW_.out (by kernel_rfl)) (fun _ _ _ h => h) (Or.inl ⟨by rfl, ?_⟩) hHeld ?_ ?_
  rotate_left
  ·
   rintro w' ⟨s0, s1, s2, s3⟩
   go_simp
   with_reducible rfl
  rotate_left
  ·
   simp only [Act.put, sI_, s0_, s1_, i64_w, i32_w]
   rfl
  refine take_ (i := 3) (N := some 17) (v := ?_) (a' := ?_) #[true, true, true, true, true, false, false, false, false] rfl rfl (take_ofW HT_.out HW_.out (by kernel_rfl)) (fun _ _ _ h => h) (Or.inl ⟨by rfl, ?_⟩) hHeld ?_ ?_
  rotate_left
  ·
   rintro w' ⟨s0, s1, s2, s3⟩
   go_simp
   with_reducible rfl
  rotate_left
  ·
   simp only [Act.put, sI_, s0_, s1_, i64_w, i32_w]
   rfl
  refine take_ (i := 5) (N := some 19) (v := ?_) (a' := ?_) #[true, true, true, true, true, true, false, false, false] rfl rfl (take_ofW HT_.out HW_.out (by kernel_rfl)) (fun _ _ _ h => h) (Or.inl ⟨by rfl, ?_⟩) hHeld ?_ ?_
  rotate_left
  ·
   rintro w' ⟨s0, s1, s2, s3⟩
   go_simp
   with_reducible rfl
  rotate_left
  ·
   simp only [Act.put, sI_, s0_, s1_, i64_w, i32_w]
   rfl
  refine one_ (i := 6) (N := some 20) #[true, true, true, true, true, true, true, false, false] rfl rfl (one_of HT_.out (by kernel_rfl)) (by decide) (fun K hK => ?_)
  refine goes_ Try.func81 (by kernel_rfl) rfl #[.slice A0_1 l0_1.length c0_1, .slice A1_1 l1_1.length c1_1] (by rfl) rfl rfl (by (try simp only [List.map_toArray, List.map_cons, List.map_nil]); rfl) ?_
  with_reducible refine (nat_Add.calls k (fun k_ => k_ < w.heap.size) _ _ l0_1 (fun k_ => k_ < w.heap.size) _ _ l1_1 t349 _ ?side1 ?side2 A4.out).mono ?_
  (case side1 => exact Kd.V_mk HC0_1.out (Kd.F_below (Kd.C_F (Kd.heap_int .u32) HR0_1.out) HB.out))
  (case side2 => exact Kd.V_mk HC1_1.out (Kd.F_below (Kd.C_F (Kd.heap_int .u32) HR1_1.out) HB.out))
  rintro e w15 ⟨v350, rfl, ho0, hb⟩
  refine ⟨_, rfl, ?_⟩
  have HO351 := am (Kd.R_lower (Kd.R_mono (ok' := fun k_ => True) ho0 (fun _ hk_ => trivial)) (below_size HB.out))
  replace BK346 := am (blk_below BK346.out hb)
  replace BK347 := am (blk_below BK347.out hb)
  replace BK348 := am (blk_below BK348.out hb)
  replace HB := am (below_step HB.out hb)
  try clear hb
  try clear ho0
  obtain ⟨Ao16, co16, eo16⟩ := Kd.R_slice HO351.out
  (subst eo16)
  refine hK.out _ _ ⟨(blk_cell BK346.out 0).trans rfl, (blk_cell BK346.out 1).trans rfl, (blk_cell BK347.out 0).trans rfl, (blk_cell BK347.out 1).trans rfl⟩ (fun hHeld => ?_)
  clear hK K
  refine norm_ (a' := ?_) ?_ ?_
  rotate_left
  ·
   show Act.put _ (some 20) _ = _
   simp only [Act.put, sI_, s0_, s1_, i64_w, i32_w]
   rfl
  refine one_ (i := 7) (N := some 21) #[true, true, true, true, true, true, true, true, false] rfl rfl (one_of HT_.out (by kernel_rfl)) (by decide) (fun K hK => ?_)
  refine goes_ Try.func47 (by kernel_rfl) rfl #[.bool a0_0, .slice Ao16 t349.length co16] (by rfl) rfl rfl (by (try simp only [List.map_toArray, List.map_cons, List.map_nil]); rfl) ?_
  with_reducible refine (whole_norm.calls k a0_0 _ _ t349 t352 t353 _ ?side1 ?side2 A5.out).mono ?_
  (case side1 => exact (Kd.R_reads' HO351.out).2.2)
  (case side2 => exact (Kd.R_reads' HO351.out).2.1)
  rintro e w17 ⟨v354, rfl, ho0, hb⟩
  refine ⟨_, rfl, ?_⟩
  have HO355 := am (Kd.R_lower (Kd.R_new' ho0 (Kd.R_lt HO351.out)) (below_size HB.out))
  replace HO351 := am (Kd.R_elder' HO351.out (Kd.R_base ho0) hb)
  replace BK346 := am (blk_below BK346.out hb)
  replace BK347 := am (blk_below BK347.out hb)
  replace BK348 := am (blk_below BK348.out hb)
  replace HB := am (below_step HB.out hb)
  try clear hb
  try clear ho0
  obtain ⟨Ao19, co19, eo19⟩ := Kd.R_slice HO355.out
  (subst eo19)
  refine hK.out _ _ ⟨(blk_cell BK346.out 0).trans rfl, (blk_cell BK346.out 1).trans rfl, (blk_cell BK347.out 0).trans rfl, (blk_cell BK347.out 1).trans rfl⟩ (fun hHeld => ?_)
  clear hK K
  refine norm_ (a' := ?_) ?_ ?_
  rotate_left
  ·
   show Act.put _ (some 21) _ = _
   simp only [Act.put, sI_, s0_, s1_, i64_w, i32_w]
   rfl
  refine one_ (i := 8) (N := none) #[true, true, true, true, true, true, true, true, true] rfl rfl (one_of HT_.out (by kernel_rfl)) (by decide) (fun K hK => ?_)
  have hs18 : w17.cell? ⟨gb348, 0, none⟩ = some (.bool false) := (blk_cell BK348.out 0).trans rfl
  have hfs18 := blk_frozen BK348.out 0
  have hns18_0 := NB346_348.out
  have hns18_1 := NB347_348.out
  have hms18_0 := NB348_346.out
  have hms18_1 := NB348_347.out
  have hs20 : w17.cell? ⟨gb348, 1, none⟩ = some (.slice none 0 0) := (blk_cell BK348.out 1).trans rfl
  have hfs20 := blk_frozen BK348.out 1
  have hns20_0 := NB346_348.out
  have hns20_1 := NB347_348.out
  have hms20_0 := NB348_346.out
  have hms20_1 := NB348_347.out
  refine skip_ (w1 := ?_) (by rfl) rfl ?_ ?_
  rotate_left
  ·
   go_simp
   rfl
  refine hK.out _ _ ⟨((cell_far (p := ⟨gb348, _, none⟩) NB346_348.out _).trans (((cell_far (p := ⟨gb348, _, none⟩) NB346_348.out _).trans (hHeld.1)))), ((cell_far (p := ⟨gb348, _, none⟩) NB346_348.out _).trans (((cell_far (p := ⟨gb348, _, none⟩) NB346_348.out _).trans (hHeld.2.1)))), ((cell_far (p := ⟨gb348, _, none⟩) NB347_348.out _).trans (((cell_far (p := ⟨gb348, _, none⟩) NB347_348.out _).trans (hHeld.2.2.1)))), ((cell_far (p := ⟨gb348, _, none⟩) NB347_348.out _).trans (((cell_far (p := ⟨gb348, _, none⟩) NB347_348.out _).trans (hHeld.2.2.2))))⟩ (fun hHeld => ?_)
  clear hK K
  refine done_ (done_of HT_.out (by kernel_rfl)) ?_
  try go_wp2
  refine bodyPost_ret (results_cell_row rfl _ _ gb348 25 #[.bool t352, .slice Ao19 t353.length co19] (0, 0) _ rfl (by refine blk_put (cs := #[.bool t352, .slice none 0 0]) ?_ 1 _ rfl; refine blk_put (cs := #[.bool false, .slice none 0 0]) ?_ 0 _ rfl; exact BK348.out) Try.underlying25 rfl (by kernel_rfl)) rfl ?_
  exact ⟨_, by rfl, by exact Kd.R_mono (Kd.R_far (p := ⟨gb348, 1, none⟩) (Kd.R_far (p := ⟨gb348, 0, none⟩) (Kd.R_types HO355.out BK348.out (by decide)) (fun _ hk => hk.2) (.bool t352)) (fun _ hk => hk.2) (.slice Ao19 t353.length co19)) (fun _ hk => trivial), by repeat ((with_reducible first | exact HB.out | refine below_set ?_ GE348.out))⟩
 ·
  rw [if_neg c3] at H
  have c3b0 : (a0_0 == a1_0) = false := by simpa using c3
  (try (have c3b1 : decide (a0_0 = a1_0) = false := by simpa using c3))
  (try (have c3b2 : (a0_0 == a1_0) = false := by simpa using c3))
  (try (have c3b3 : ¬ (a0_0 = a1_0) := by simpa using c3))
  clear c3
  obtain ⟨⟨t356, t357⟩, A21, H⟩ := bindE H
  dsimp only at H
  by_cases c22 : t357 = true
  ·
   subst c22
   rw [if_pos rfl] at H
   obtain ⟨⟨t360, t361⟩, A23, H⟩ := bindE H
   replace H : (some (t360, t361)) = some (r1, r2) := H
   simp only [Option.some.injEq, Prod.mk.injEq] at H
   obtain ⟨rfl, rfl⟩ := H
   go_enter Try.func48, Try.ntmps48
   go_wp2_with (first | ((with_reducible refine gate_dst (N := 2) rfl ?_); refine box_event ?hg (N := 2) ?hd (cs := #[.bool a0_0, .slice A0_1 l0_1.length c0_1]) (t := 25) ?hr ?_; (case hd => rfl); (case hg => rfl); (case hr => (go_simp; done)); intro gb346 hg w24 hbox hb; have BK346 := am hbox; have GW346 := am (gel hg HB.out); have GE346 := am (gel hg HB.out); replace HB := am (below_step HB.out hb); clear hb hbox hg) | ((with_reducible refine gate_dst (N := 3) rfl ?_); refine box_event ?hg (N := 3) ?hd (cs := #[.bool a1_0, .slice A1_1 l1_1.length c1_1]) (t := 25) ?hr ?_; (case hd => rfl); (case hg => rfl); (case hr => (go_simp; done)); intro gb347 hg w25 hbox hb; have BK347 := am hbox; have GW347 := am (gel hg HB.out); have GE347 := am (gel hg HB.out); replace HB := am (below_step HB.out hb); have NB346_347 := am (nel hg BK346.out); have NB347_346 := am (ner hg BK346.out); replace BK346 := am (blk_below BK346.out hb); clear hb hbox hg) | ((with_reducible refine gate_dst (N := 4) rfl ?_); refine box_event ?hg (N := 4) ?hd (cs := #[.bool false, .slice none 0 0]) (t := 25) ?hr ?_; (case hd => rfl); (case hg => rfl); (case hr => (go_simp; done)); intro gb348 hg w26 hbox hb; have BK348 := am hbox; have GW348 := am (gel hg HB.out); have GE348 := am (gel hg HB.out); replace HB := am (below_step HB.out hb); have NB346_348 := am (nel hg BK346.out); have NB348_346 := am (ner hg BK346.out); replace BK346 := am (blk_below BK346.out hb); have NB347_348 := am (nel hg BK347.out); have NB348_347 := am (ner hg BK347.out); replace BK347 := am (blk_below BK347.out hb); clear hb hbox hg; have hnb27 := NB346_347.out; have hnc27 := NB347_346.out; have hnb28 := NB346_348.out; have hnc28 := NB348_346.out; have hcz29_0 : w26.cell? ⟨gb346, 0, none⟩ = some (.bool a0_0) := (blk_cell BK346.out 0).trans rfl; have hcz29_1 : w26.cell? ⟨gb346, 1, none⟩ = some (.slice A0_1 l0_1.length c0_1) := (blk_cell BK346.out 1).trans rfl; have hfz29_0 := blk_frozen BK346.out 0; have hfz29_1 := blk_frozen BK346.out 1; have hnb30 := NB347_348.out; have hnc30 := NB348_347.out; have hcz31_0 : w26.cell? ⟨gb347, 0, none⟩ = some (.bool a1_0) := (blk_cell BK347.out 0).trans rfl; have hcz31_1 : w26.cell? ⟨gb347, 1, none⟩ = some (.slice A1_1 l1_1.length c1_1) := (blk_cell BK347.out 1).trans rfl; have hfz31_0 := blk_frozen BK347.out 0; have hfz31_1 := blk_frozen BK347.out 1) | ((with_reducible refine gate_callee (f := 82) rfl ?_); refine goesL_ (some 27) rfl rfl Try.func82 (by kernel_rfl) rfl #[.slice A0_1 l0_1.length c0_1, .slice A1_1 l1_1.length c1_1] rfl (by (try simp only [List.map_toArray, List.map_cons, List.map_nil]); rfl) ?_; (with_reducible refine (nat_Sub.calls k _ _ l0_1 _ _ l1_1 t356 true _ ?side1 ?side2 ?side3 ?side4 A21.out).mono ?_); (case side1 => repeat (exact (Kd.C_below HR0_1.out HB.out))); (case side2 => exact HC0_1.out); (case side3 => repeat (exact (Kd.C_below HR1_1.out HB.out))); (case side4 => exact HC1_1.out); rintro e w32 ⟨v358, rfl, ho0, hb⟩; refine ⟨_, rfl, ?_⟩; have HO359 := am (Kd.R_lower ho0 (below_size HB.out)); replace BK346 := am (blk_below BK346.out hb); replace BK347 := am (blk_below BK347.out hb); replace BK348 := am (blk_below BK348.out hb); replace HB := am (below_step HB.out hb); (try clear hb); (try clear ho0); have hcz33_0 : w32.cell? ⟨gb346, 0, none⟩ = some (.bool a0_0) := (blk_cell BK346.out 0).trans rfl; have hcz33_1 : w32.cell? ⟨gb346, 1, none⟩ = some (.slice A0_1 l0_1.length c0_1) := (blk_cell BK346.out 1).trans rfl; have hfz33_0 := blk_frozen BK346.out 0; have hfz33_1 := blk_frozen BK346.out 1; obtain ⟨Ao34, co34, eo34⟩ := Kd.R_slice HO359.out; subst eo34) | ((with_reducible refine gate_callee (f := 47) rfl ?_); refine goesL_ (some 34) rfl rfl Try.func47 (by kernel_rfl) rfl #[.bool a0_0, .slice Ao34 t356.length co34] rfl (by (try simp only [List.map_toArray, List.map_cons, List.map_nil]); rfl) ?_; (with_reducible refine (whole_norm.calls k a0_0 _ _ t356 t360 t361 _ ?side1 ?side2 A23.out).mono ?_); (case side1 => exact (Kd.R_reads' HO359.out).2.2); (case side2 => exact (Kd.R_reads' HO359.out).2.1); rintro e w35 ⟨v362, rfl, ho0, hb⟩; refine ⟨_, rfl, ?_⟩; have HO363 := am (Kd.R_lower (Kd.R_new' ho0 (Kd.R_lt HO359.out)) (below_size HB.out)); replace HO359 := am (Kd.R_elder' HO359.out (Kd.R_base ho0) hb); replace BK346 := am (blk_below BK346.out hb); replace BK347 := am (blk_below BK347.out hb); replace BK348 := am (blk_below BK348.out hb); replace HB := am (below_step HB.out hb); (try clear hb); (try clear ho0); have hcz36_0 : w35.cell? ⟨gb348, 0, none⟩ = some (.bool false) := (blk_cell BK348.out 0).trans rfl; have hcz36_1 : w35.cell? ⟨gb348, 1, none⟩ = some (.slice none 0 0) := (blk_cell BK348.out 1).trans rfl; have hfz36_0 := blk_frozen BK348.out 0; have hfz36_1 := blk_frozen BK348.out 1; obtain ⟨Ao37, co37, eo37⟩ := Kd.R_slice HO363.out; subst eo37))
   refine bodyPost_ret (results_cell_row rfl _ _ gb348 25 #[.bool t360, .slice Ao37 t361.length co37] (0, 0) _ rfl (by refine blk_put (cs := #[.bool t360, .slice none 0 0]) ?_ 1 _ rfl; refine blk_put (cs := #[.bool false, .slice none 0 0]) ?_ 0 _ rfl; exact BK348.out) Try.underlying25 rfl (by kernel_rfl)) rfl ?_
   exact ⟨_, by rfl, by exact Kd.R_mono (Kd.R_far (p := ⟨gb348, 1, none⟩) (Kd.R_far (p := ⟨gb348, 0, none⟩) (Kd.R_types HO363.out BK348.out (by decide)) (fun _ hk => hk.2) (.bool t360)) (fun _ hk => hk.2) (.slice Ao37 t361.length co37)) (fun _ hk => trivial), by repeat ((with_reducible first | exact HB.out | refine below_set ?_ GE348.out))⟩
  ·
   replace c22 := Bool.eq_false_iff.mpr c22
   subst c22
   rw [if_neg (show ¬ (false = true) by decide)] at H
   obtain ⟨⟨t364, t365⟩, A38, H⟩ := bindE H
   dsimp only at H
   obtain ⟨⟨t368, t369⟩, A39, H⟩ := bindE H
   replace H : (some (t368, t369)) = some (r1, r2) := H
   simp only [Option.some.injEq, Prod.mk.injEq] at H
   obtain ⟨rfl, rfl⟩ := H
   go_enter Try.func48, Try.ntmps48
   go_wp2_with (first | ((with_reducible refine gate_dst (N := 2) rfl ?_); refine box_event ?hg (N := 2) ?hd (cs := #[.bool a0_0, .slice A0_1 l0_1.length c0_1]) (t := 25) ?hr ?_; (case hd => rfl); (case hg => rfl); (case hr => (go_simp; done)); intro gb346 hg w40 hbox hb; have BK346 := am hbox; have GW346 := am (gel hg HB.out); have GE346 := am (gel hg HB.out); replace HB := am (below_step HB.out hb); clear hb hbox hg) | ((with_reducible refine gate_dst (N := 3) rfl ?_); refine box_event ?hg (N := 3) ?hd (cs := #[.bool a1_0, .slice A1_1 l1_1.length c1_1]) (t := 25) ?hr ?_; (case hd => rfl); (case hg => rfl); (case hr => (go_simp; done)); intro gb347 hg w41 hbox hb; have BK347 := am hbox; have GW347 := am (gel hg HB.out); have GE347 := am (gel hg HB.out); replace HB := am (below_step HB.out hb); have NB346_347 := am (nel hg BK346.out); have NB347_346 := am (ner hg BK346.out); replace BK346 := am (blk_below BK346.out hb); clear hb hbox hg) | ((with_reducible refine gate_dst (N := 4) rfl ?_); refine box_event ?hg (N := 4) ?hd (cs := #[.bool false, .slice none 0 0]) (t := 25) ?hr ?_; (case hd => rfl); (case hg => rfl); (case hr => (go_simp; done)); intro gb348 hg w42 hbox hb; have BK348 := am hbox; have GW348 := am (gel hg HB.out); have GE348 := am (gel hg HB.out); replace HB := am (below_step HB.out hb); have NB346_348 := am (nel hg BK346.out); have NB348_346 := am (ner hg BK346.out); replace BK346 := am (blk_below BK346.out hb); have NB347_348 := am (nel hg BK347.out); have NB348_347 := am (ner hg BK347.out); replace BK347 := am (blk_below BK347.out hb); clear hb hbox hg; have hnb43 := NB346_347.out; have hnc43 := NB347_346.out; have hnb44 := NB346_348.out; have hnc44 := NB348_346.out; have hcz45_0 : w42.cell? ⟨gb346, 0, none⟩ = some (.bool a0_0) := (blk_cell BK346.out 0).trans rfl; have hcz45_1 : w42.cell? ⟨gb346, 1, none⟩ = some (.slice A0_1 l0_1.length c0_1) := (blk_cell BK346.out 1).trans rfl; have hfz45_0 := blk_frozen BK346.out 0; have hfz45_1 := blk_frozen BK346.out 1; have hnb46 := NB347_348.out; have hnc46 := NB348_347.out; have hcz47_0 : w42.cell? ⟨gb347, 0, none⟩ = some (.bool a1_0) := (blk_cell BK347.out 0).trans rfl; have hcz47_1 : w42.cell? ⟨gb347, 1, none⟩ = some (.slice A1_1 l1_1.length c1_1) := (blk_cell BK347.out 1).trans rfl; have hfz47_0 := blk_frozen BK347.out 0; have hfz47_1 := blk_frozen BK347.out 1) | ((with_reducible refine gate_callee (f := 82) rfl ?_); refine goesL_ (some 27) rfl rfl Try.func82 (by kernel_rfl) rfl #[.slice A0_1 l0_1.length c0_1, .slice A1_1 l1_1.length c1_1] rfl (by (try simp only [List.map_toArray, List.map_cons, List.map_nil]); rfl) ?_; (with_reducible refine (nat_Sub.calls k _ _ l0_1 _ _ l1_1 t356 false _ ?side1 ?side2 ?side3 ?side4 A21.out).mono ?_); (case side1 => repeat (exact (Kd.C_below HR0_1.out HB.out))); (case side2 => exact HC0_1.out); (case side3 => repeat (exact (Kd.C_below HR1_1.out HB.out))); (case side4 => exact HC1_1.out); rintro e w48 ⟨v358, rfl, ho0, hb⟩; refine ⟨_, rfl, ?_⟩; have HO359 := am (Kd.R_lower ho0 (below_size HB.out)); replace BK346 := am (blk_below BK346.out hb); replace BK347 := am (blk_below BK347.out hb); replace BK348 := am (blk_below BK348.out hb); replace HB := am (below_step HB.out hb); (try clear hb); (try clear ho0); have hcz49_0 : w48.cell? ⟨gb347, 0, none⟩ = some (.bool a1_0) := (blk_cell BK347.out 0).trans rfl; have hcz49_1 : w48.cell? ⟨gb347, 1, none⟩ = some (.slice A1_1 l1_1.length c1_1) := (blk_cell BK347.out 1).trans rfl; have hfz49_0 := blk_frozen BK347.out 0; have hfz49_1 := blk_frozen BK347.out 1; have hcz50_0 : w48.cell? ⟨gb346, 0, none⟩ = some (.bool a0_0) := (blk_cell BK346.out 0).trans rfl; have hcz50_1 : w48.cell? ⟨gb346, 1, none⟩ = some (.slice A0_1 l0_1.length c0_1) := (blk_cell BK346.out 1).trans rfl; have hfz50_0 := blk_frozen BK346.out 0; have hfz50_1 := blk_frozen BK346.out 1) | ((with_reducible refine gate_callee (f := 82) rfl ?_); refine goesL_ (some 40) rfl rfl Try.func82 (by kernel_rfl) rfl #[.slice A1_1 l1_1.length c1_1, .slice A0_1 l0_1.length c0_1] rfl (by (try simp only [List.map_toArray, List.map_cons, List.map_nil]); rfl) ?_; (with_reducible refine (nat_Sub.calls k _ _ l1_1 _ _ l0_1 t364 t365 _ ?side1 ?side2 ?side3 ?side4 A38.out).mono ?_); (case side1 => repeat (exact (Kd.C_below HR1_1.out HB.out))); (case side2 => exact HC1_1.out); (case side3 => repeat (exact (Kd.C_below HR0_1.out HB.out))); (case side4 => exact HC0_1.out); rintro e w51 ⟨v366, rfl, ho0, hb⟩; refine ⟨_, rfl, ?_⟩; have HO367 := am (Kd.R_lower (Kd.R_new' ho0 (Kd.R_lt HO359.out)) (below_size HB.out)); replace HO359 := am (Kd.R_elder' HO359.out (Kd.R_base ho0) hb); replace BK346 := am (blk_below BK346.out hb); replace BK347 := am (blk_below BK347.out hb); replace BK348 := am (blk_below BK348.out hb); replace HB := am (below_step HB.out hb); (try clear hb); (try clear ho0); have hcz52_0 : w51.cell? ⟨gb347, 0, none⟩ = some (.bool a1_0) := (blk_cell BK347.out 0).trans rfl; have hcz52_1 : w51.cell? ⟨gb347, 1, none⟩ = some (.slice A1_1 l1_1.length c1_1) := (blk_cell BK347.out 1).trans rfl; have hfz52_0 := blk_frozen BK347.out 0; have hfz52_1 := blk_frozen BK347.out 1; obtain ⟨Ao53, co53, eo53⟩ := Kd.R_slice HO367.out; subst eo53) | ((with_reducible refine gate_callee (f := 47) rfl ?_); refine goesL_ (some 46) rfl rfl Try.func47 (by kernel_rfl) rfl #[.bool a1_0, .slice Ao53 t364.length co53] rfl (by (try simp only [List.map_toArray, List.map_cons, List.map_nil]); rfl) ?_; (with_reducible refine (whole_norm.calls k a1_0 _ _ t364 t368 t369 _ ?side1 ?side2 A39.out).mono ?_); (case side1 => exact (Kd.R_reads' HO367.out).2.2); (case side2 => exact (Kd.R_reads' HO367.out).2.1); rintro e w54 ⟨v370, rfl, ho0, hb⟩; refine ⟨_, rfl, ?_⟩; have HO371 := am (Kd.R_lower (Kd.R_new' (Kd.R_new' ho0 (Kd.R_lt HO359.out)) (Kd.R_lt HO367.out)) (below_size HB.out)); replace HO359 := am (Kd.R_elder' HO359.out (Kd.R_base ho0) hb); replace HO367 := am (Kd.R_elder' HO367.out (Kd.R_base ho0) hb); replace BK346 := am (blk_below BK346.out hb); replace BK347 := am (blk_below BK347.out hb); replace BK348 := am (blk_below BK348.out hb); replace HB := am (below_step HB.out hb); (try clear hb); (try clear ho0); have hcz55_0 : w54.cell? ⟨gb348, 0, none⟩ = some (.bool false) := (blk_cell BK348.out 0).trans rfl; have hcz55_1 : w54.cell? ⟨gb348, 1, none⟩ = some (.slice none 0 0) := (blk_cell BK348.out 1).trans rfl; have hfz55_0 := blk_frozen BK348.out 0; have hfz55_1 := blk_frozen BK348.out 1; obtain ⟨Ao56, co56, eo56⟩ := Kd.R_slice HO371.out; subst eo56))
   refine bodyPost_ret (results_cell_row rfl _ _ gb348 25 #[.bool t368, .slice Ao56 t369.length co56] (0, 0) _ rfl (by refine blk_put (cs := #[.bool t368, .slice none 0 0]) ?_ 1 _ rfl; refine blk_put (cs := #[.bool false, .slice none 0 0]) ?_ 0 _ rfl; exact BK348.out) Try.underlying25 rfl (by kernel_rfl)) rfl ?_
   exact ⟨_, by rfl, by exact Kd.R_mono (Kd.R_far (p := ⟨gb348, 1, none⟩) (Kd.R_far (p := ⟨gb348, 0, none⟩) (Kd.R_types HO371.out BK348.out (by decide)) (fun _ hk => hk.2) (.bool t368)) (fun _ hk => hk.2) (.slice Ao56 t369.length co56)) (fun _ hk => trivial), by repeat ((with_reducible first | exact HB.out | refine below_set ?_ GE348.out))⟩

/-! ### whole_Add: function 19 -/
def whole_Add.f (k : Nat) (a0_0 : Bool) (l0_1 : List Int) (a1_0 : Bool) (l1_1 : List Int) : Option (Bool × List Int) := (whole_add.f k a0_0 l0_1 a1_0 l1_1).bind fun bt493 => (some (bt493.1, bt493.2))
theorem whole_Add.mono : ∀ a0 a1 a2 a3 k, LeO (whole_Add.f k a0 a1 a2 a3) (whole_Add.f (k + 1) a0 a1 a2 a3) := by
 intro a0 a1 a2 a3 k
 unfold whole_Add.f
 repeat' first
   | (with_reducible exact whole_add.mono _ _ _ _ _)
   | (with_reducible exact LeO.refl _)
   | (with_reducible refine LeO.bind ?_ (fun _ => ?_))
set_option maxHeartbeats 8000000 in
set_option maxRecDepth 100000 in
theorem whole_Add.calls (k : Nat) (a0_0 : Bool) (A0_1 : Option Addr) (c0_1 : Nat) (l0_1 : List Int) (a1_0 : Bool) (A1_1 : Option Addr) (c1_1 : Nat) (l1_1 : List Int) (r1 : Bool) (r2 : List Int) (w : World) (hr0_1 : Kd.C (Kd.int .u32) w A0_1 l0_1.length l0_1) (hc0_1 : l0_1.length ≤ c0_1) (hr1_1 : Kd.C (Kd.int .u32) w A1_1 l1_1.length l1_1) (hc1_1 : l1_1.length ≤ c1_1) (h : whole_Add.f k a0_0 l0_1 a1_0 l1_1 = some (r1, r2)) :
  Calls Try.prog 19 #[.agg #[.bool a0_0, .slice A0_1 l0_1.length c0_1], .agg #[.bool a1_0, .slice A1_1 l1_1.length c1_1]] w fun e w' => ∃ v1_ : Value, e = .returned (.agg #[.bool r1, v1_]) ∧ Kd.R (Kd.int .u32) 78 w' w.heap.size (fun _ => True) v1_ r2 ∧ Below w.heap.size w w' := by
 have hu25 := Try.underlying25
 have HR0_1 := am hr0_1
 have HC0_1 := am hc0_1
 clear hr0_1 hc0_1
 have HR1_1 := am hr1_1
 have HC1_1 := am hc1_1
 clear hr1_1 hc1_1
 have HB := am (Below.refl w.heap.size w)
 have H : ((whole_add.f k a0_0 l0_1 a1_0 l1_1).bind fun bt493 => (some (bt493.1, bt493.2))) = some (r1, r2) := h
 clear h
 obtain ⟨⟨t493, t494⟩, A3, H⟩ := bindE H
 replace H : (some (t493, t494)) = some (r1, r2) := H
 simp only [Option.some.injEq, Prod.mk.injEq] at H
 obtain ⟨rfl, rfl⟩ := H
 go_enter Try.func19, Try.ntmps19
 go_wp2_with (first | ((with_reducible refine gate_dst (N := 2) rfl ?_); refine box_event ?hg (N := 2) ?hd (cs := #[.bool a0_0, .slice A0_1 l0_1.length c0_1]) (t := 25) ?hr ?_; (case hd => rfl); (case hg => rfl); (case hr => (go_simp; done)); intro gb490 hg w4 hbox hb; have BK490 := am hbox; have GW490 := am (gel hg HB.out); have GE490 := am (gel hg HB.out); replace HB := am (below_step HB.out hb); clear hb hbox hg) | ((with_reducible refine gate_dst (N := 3) rfl ?_); refine box_event ?hg (N := 3) ?hd (cs := #[.bool a1_0, .slice A1_1 l1_1.length c1_1]) (t := 25) ?hr ?_; (case hd => rfl); (case hg => rfl); (case hr => (go_simp; done)); intro gb491 hg w5 hbox hb; have BK491 := am hbox; have GW491 := am (gel hg HB.out); have GE491 := am (gel hg HB.out); replace HB := am (below_step HB.out hb); have NB490_491 := am (nel hg BK490.out); have NB491_490 := am (ner hg BK490.out); replace BK490 := am (blk_below BK490.out hb); clear hb hbox hg) | ((with_reducible refine gate_dst (N := 4) rfl ?_); refine box_event ?hg (N := 4) ?hd (cs := #[.bool false, .slice none 0 0]) (t := 25) ?hr ?_; (case hd => rfl); (case hg => rfl); (case hr => (go_simp; done)); intro gb492 hg w6 hbox hb; have BK492 := am hbox; have GW492 := am (gel hg HB.out); have GE492 := am (gel hg HB.out); replace HB := am (below_step HB.out hb); have NB490_492 := am (nel hg BK490.out); have NB492_490 := am (ner hg BK490.out); replace BK490 := am (blk_below BK490.out hb); have NB491_492 := am (nel hg BK491.out); have NB492_491 := am (ner hg BK491.out); replace BK491 := am (blk_below BK491.out hb); clear hb hbox hg; have hnb7 := NB490_491.out; have hnc7 := NB491_490.out; have hnb8 := NB490_492.out; have hnc8 := NB492_490.out; have hcz9_0 : w6.cell? ⟨gb490, 0, none⟩ = some (.bool a0_0) := (blk_cell BK490.out 0).trans rfl; have hcz9_1 : w6.cell? ⟨gb490, 1, none⟩ = some (.slice A0_1 l0_1.length c0_1) := (blk_cell BK490.out 1).trans rfl; have hfz9_0 := blk_frozen BK490.out 0; have hfz9_1 := blk_frozen BK490.out 1; have hnb10 := NB491_492.out; have hnc10 := NB492_491.out; have hcz11_0 : w6.cell? ⟨gb491, 0, none⟩ = some (.bool a1_0) := (blk_cell BK491.out 0).trans rfl; have hcz11_1 : w6.cell? ⟨gb491, 1, none⟩ = some (.slice A1_1 l1_1.length c1_1) := (blk_cell BK491.out 1).trans rfl; have hfz11_0 := blk_frozen BK491.out 0; have hfz11_1 := blk_frozen BK491.out 1) | ((with_reducible refine gate_callee (f := 48) rfl ?_); refine goesL_ (some 7) rfl rfl Try.func48 (by kernel_rfl) rfl #[.agg #[.bool a0_0, .slice A0_1 l0_1.length c0_1], .agg #[.bool a1_0, .slice A1_1 l1_1.length c1_1]] rfl (by (try simp only [List.map_toArray, List.map_cons, List.map_nil]); rfl) ?_; (with_reducible refine (whole_add.calls k a0_0 _ _ l0_1 a1_0 _ _ l1_1 t493 t494 _ ?side1 ?side2 ?side3 ?side4 A3.out).mono ?_); (case side1 => repeat (exact (Kd.C_below HR0_1.out HB.out))); (case side2 => exact HC0_1.out); (case side3 => repeat (exact (Kd.C_below HR1_1.out HB.out))); (case side4 => exact HC1_1.out); rintro e w12 ⟨v495, rfl, ho0, hb⟩; refine ⟨_, rfl, ?_⟩; have HO496 := am (Kd.R_lower ho0 (below_size HB.out)); replace BK490 := am (blk_below BK490.out hb); replace BK491 := am (blk_below BK491.out hb); replace BK492 := am (blk_below BK492.out hb); replace HB := am (below_step HB.out hb); (try clear hb); (try clear ho0); have hcz13_0 : w12.cell? ⟨gb492, 0, none⟩ = some (.bool false) := (blk_cell BK492.out 0).trans rfl; have hcz13_1 : w12.cell? ⟨gb492, 1, none⟩ = some (.slice none 0 0) := (blk_cell BK492.out 1).trans rfl; have hfz13_0 := blk_frozen BK492.out 0; have hfz13_1 := blk_frozen BK492.out 1; obtain ⟨Ao14, co14, eo14⟩ := Kd.R_slice HO496.out; subst eo14))
 refine bodyPost_ret (results_cell_row rfl _ _ gb492 25 #[.bool t493, .slice Ao14 t494.length co14] (0, 0) _ rfl (by refine blk_put (cs := #[.bool t493, .slice none 0 0]) ?_ 1 _ rfl; refine blk_put (cs := #[.bool false, .slice none 0 0]) ?_ 0 _ rfl; exact BK492.out) Try.underlying25 rfl (by kernel_rfl)) rfl ?_
 exact ⟨_, by rfl, by exact Kd.R_mono (Kd.R_far (p := ⟨gb492, 1, none⟩) (Kd.R_far (p := ⟨gb492, 0, none⟩) (Kd.R_types HO496.out BK492.out (by decide)) (fun _ hk => hk.2) (.bool t493)) (fun _ hk => hk.2) (.slice Ao14 t494.length co14)) (fun _ hk => trivial), by repeat ((with_reducible first | exact HB.out | refine below_set ?_ GE492.out))⟩

/-! ### whole_neg: function 55 -/
def whole_neg.f (k : Nat) (a0_0 : Bool) (l0_1 : List Int) : Option (Bool × List Int) := (whole_norm.f k (!a0_0) l0_1).bind fun bt569 => (some (bt569.1, bt569.2))
theorem whole_neg.mono : ∀ a0 a1 k, LeO (whole_neg.f k a0 a1) (whole_neg.f (k + 1) a0 a1) := by
 intro a0 a1 k
 unfold whole_neg.f
 repeat' first
   | (with_reducible exact whole_norm.mono _ _ _)
   | (with_reducible exact LeO.refl _)
   | (with_reducible refine LeO.bind ?_ (fun _ => ?_))
set_option maxHeartbeats 8000000 in
set_option maxRecDepth 100000 in
theorem whole_neg.calls (k : Nat) (a0_0 : Bool) (A0_1 : Option Addr) (c0_1 : Nat) (l0_1 : List Int) (r1 : Bool) (r2 : List Int) (w : World) (hr0_1 : Kd.C (Kd.int .u32) w A0_1 l0_1.length l0_1) (hc0_1 : l0_1.length ≤ c0_1) (h : whole_neg.f k a0_0 l0_1 = some (r1, r2)) :
  Calls Try.prog 55 #[.agg #[.bool a0_0, .slice A0_1 l0_1.length c0_1]] w fun e w' => ∃ v1_ : Value, e = .returned (.agg #[.bool r1, v1_]) ∧ Kd.R (Kd.int .u32) 78 w' w.heap.size (fun _ => True) v1_ r2 ∧ Below w.heap.size w w' := by
 have hu25 := Try.underlying25
 have HR0_1 := am hr0_1
 have HC0_1 := am hc0_1
 clear hr0_1 hc0_1
 have HB := am (Below.refl w.heap.size w)
 have H : ((whole_norm.f k (!a0_0) l0_1).bind fun bt569 => (some (bt569.1, bt569.2))) = some (r1, r2) := h
 clear h
 obtain ⟨⟨t569, t570⟩, A2, H⟩ := bindE H
 replace H : (some (t569, t570)) = some (r1, r2) := H
 simp only [Option.some.injEq, Prod.mk.injEq] at H
 obtain ⟨rfl, rfl⟩ := H
 go_enter Try.func55, Try.ntmps55
 go_wp2_with (first | ((with_reducible refine gate_dst (N := 1) rfl ?_); refine box_event ?hg (N := 1) ?hd (cs := #[.bool a0_0, .slice A0_1 l0_1.length c0_1]) (t := 25) ?hr ?_; (case hd => rfl); (case hg => rfl); (case hr => (go_simp; done)); intro gb567 hg w3 hbox hb; have BK567 := am hbox; have GW567 := am (gel hg HB.out); have GE567 := am (gel hg HB.out); replace HB := am (below_step HB.out hb); clear hb hbox hg) | ((with_reducible refine gate_dst (N := 2) rfl ?_); refine box_event ?hg (N := 2) ?hd (cs := #[.bool false, .slice none 0 0]) (t := 25) ?hr ?_; (case hd => rfl); (case hg => rfl); (case hr => (go_simp; done)); intro gb568 hg w4 hbox hb; have BK568 := am hbox; have GW568 := am (gel hg HB.out); have GE568 := am (gel hg HB.out); replace HB := am (below_step HB.out hb); have NB567_568 := am (nel hg BK567.out); have NB568_567 := am (ner hg BK567.out); replace BK567 := am (blk_below BK567.out hb); clear hb hbox hg; have hnb5 := NB567_568.out; have hnc5 := NB568_567.out; have hcz6_0 : w4.cell? ⟨gb567, 0, none⟩ = some (.bool a0_0) := (blk_cell BK567.out 0).trans rfl; have hcz6_1 : w4.cell? ⟨gb567, 1, none⟩ = some (.slice A0_1 l0_1.length c0_1) := (blk_cell BK567.out 1).trans rfl; have hfz6_0 := blk_frozen BK567.out 0; have hfz6_1 := blk_frozen BK567.out 1) | ((with_reducible refine gate_callee (f := 47) rfl ?_); refine goesL_ (some 8) rfl rfl Try.func47 (by kernel_rfl) rfl #[.bool (!a0_0), .slice A0_1 l0_1.length c0_1] rfl (by (try simp only [List.map_toArray, List.map_cons, List.map_nil]); rfl) ?_; (with_reducible refine (whole_norm.calls k (!a0_0) _ _ l0_1 t569 t570 _ ?side1 ?side2 A2.out).mono ?_); (case side1 => repeat (exact (Kd.C_below HR0_1.out HB.out))); (case side2 => exact HC0_1.out); rintro e w7 ⟨v571, rfl, ho0, hb⟩; refine ⟨_, rfl, ?_⟩; have HO572 := am (Kd.R_lower ho0 (below_size HB.out)); replace BK567 := am (blk_below BK567.out hb); replace BK568 := am (blk_below BK568.out hb); replace HB := am (below_step HB.out hb); (try clear hb); (try clear ho0); have hcz8_0 : w7.cell? ⟨gb568, 0, none⟩ = some (.bool false) := (blk_cell BK568.out 0).trans rfl; have hcz8_1 : w7.cell? ⟨gb568, 1, none⟩ = some (.slice none 0 0) := (blk_cell BK568.out 1).trans rfl; have hfz8_0 := blk_frozen BK568.out 0; have hfz8_1 := blk_frozen BK568.out 1; obtain ⟨Ao9, co9, eo9⟩ := Kd.R_slice HO572.out; subst eo9))
 refine bodyPost_ret (results_cell_row rfl _ _ gb568 25 #[.bool t569, .slice Ao9 t570.length co9] (0, 0) _ rfl (by refine blk_put (cs := #[.bool t569, .slice none 0 0]) ?_ 1 _ rfl; refine blk_put (cs := #[.bool false, .slice none 0 0]) ?_ 0 _ rfl; exact BK568.out) Try.underlying25 rfl (by kernel_rfl)) rfl ?_
 exact ⟨_, by rfl, by exact Kd.R_mono (Kd.R_far (p := ⟨gb568, 1, none⟩) (Kd.R_far (p := ⟨gb568, 0, none⟩) (Kd.R_types HO572.out BK568.out (by decide)) (fun _ hk => hk.2) (.bool t569)) (fun _ hk => hk.2) (.slice Ao9 t570.length co9)) (fun _ hk => trivial), by repeat ((with_reducible first | exact HB.out | refine below_set ?_ GE568.out))⟩

/-! ### whole_Sub: function 21 -/
def whole_Sub.f (k : Nat) (a0_0 : Bool) (l0_1 : List Int) (a1_0 : Bool) (l1_1 : List Int) : Option (Bool × List Int) := (whole_neg.f k a1_0 l1_1).bind fun bt576 => ((whole_add.f k a0_0 l0_1 bt576.1 bt576.2).bind fun bt580 => (some (bt580.1, bt580.2)))
theorem whole_Sub.mono : ∀ a0 a1 a2 a3 k, LeO (whole_Sub.f k a0 a1 a2 a3) (whole_Sub.f (k + 1) a0 a1 a2 a3) := by
 intro a0 a1 a2 a3 k
 unfold whole_Sub.f
 repeat' first
   | (with_reducible exact whole_add.mono _ _ _ _ _)
   | (with_reducible exact whole_neg.mono _ _ _)
   | (with_reducible exact LeO.refl _)
   | (with_reducible refine LeO.bind ?_ (fun _ => ?_))
set_option maxHeartbeats 8000000 in
set_option maxRecDepth 100000 in
theorem whole_Sub.calls (k : Nat) (a0_0 : Bool) (A0_1 : Option Addr) (c0_1 : Nat) (l0_1 : List Int) (a1_0 : Bool) (A1_1 : Option Addr) (c1_1 : Nat) (l1_1 : List Int) (r1 : Bool) (r2 : List Int) (w : World) (hr0_1 : Kd.C (Kd.int .u32) w A0_1 l0_1.length l0_1) (hc0_1 : l0_1.length ≤ c0_1) (hr1_1 : Kd.C (Kd.int .u32) w A1_1 l1_1.length l1_1) (hc1_1 : l1_1.length ≤ c1_1) (h : whole_Sub.f k a0_0 l0_1 a1_0 l1_1 = some (r1, r2)) :
  Calls Try.prog 21 #[.agg #[.bool a0_0, .slice A0_1 l0_1.length c0_1], .agg #[.bool a1_0, .slice A1_1 l1_1.length c1_1]] w fun e w' => ∃ v1_ : Value, e = .returned (.agg #[.bool r1, v1_]) ∧ Kd.R (Kd.int .u32) 78 w' w.heap.size (fun _ => True) v1_ r2 ∧ Below w.heap.size w w' := by
 have hu25 := Try.underlying25
 have HR0_1 := am hr0_1
 have HC0_1 := am hc0_1
 clear hr0_1 hc0_1
 have HR1_1 := am hr1_1
 have HC1_1 := am hc1_1
 clear hr1_1 hc1_1
 have HB := am (Below.refl w.heap.size w)
 have H : ((whole_neg.f k a1_0 l1_1).bind fun bt576 => ((whole_add.f k a0_0 l0_1 bt576.1 bt576.2).bind fun bt580 => (some (bt580.1, bt580.2)))) = some (r1, r2) := h
 clear h
 obtain ⟨⟨t576, t577⟩, A3, H⟩ := bindE H
 dsimp only at H
 obtain ⟨⟨t580, t581⟩, A4, H⟩ := bindE H
 replace H : (some (t580, t581)) = some (r1, r2) := H
 simp only [Option.some.injEq, Prod.mk.injEq] at H
 obtain ⟨rfl, rfl⟩ := H
 go_enter Try.func21, Try.ntmps21
 try go_wp2_with (first | ((with_reducible refine gate_dst (N := 2) rfl ?_); refine box_event ?hg (N := 2) ?hd (cs := #[.bool a0_0, .slice A0_1 l0_1.length c0_1]) (t := 25) ?hr ?_; (case hd => rfl); (case hg => rfl); (case hr => (go_simp; done)); intro gb573 hg w5 hbox hb; have BK573 := am hbox; have GW573 := am (gel hg HB.out); have GE573 := am (gel hg HB.out); replace HB := am (below_step HB.out hb); clear hb hbox hg) | ((with_reducible refine gate_dst (N := 3) rfl ?_); refine box_event ?hg (N := 3) ?hd (cs := #[.bool a1_0, .slice A1_1 l1_1.length c1_1]) (t := 25) ?hr ?_; (case hd => rfl); (case hg => rfl); (case hr => (go_simp; done)); intro gb574 hg w6 hbox hb; have BK574 := am hbox; have GW574 := am (gel hg HB.out); have GE574 := am (gel hg HB.out); replace HB := am (below_step HB.out hb); have NB573_574 := am (nel hg BK573.out); have NB574_573 := am (ner hg BK573.out); replace BK573 := am (blk_below BK573.out hb); clear hb hbox hg) | ((with_reducible refine gate_dst (N := 4) rfl ?_); refine box_event ?hg (N := 4) ?hd (cs := #[.bool false, .slice none 0 0]) (t := 25) ?hr ?_; (case hd => rfl); (case hg => rfl); (case hr => (go_simp; done)); intro gb575 hg w7 hbox hb; have BK575 := am hbox; have GW575 := am (gel hg HB.out); have GE575 := am (gel hg HB.out); replace HB := am (below_step HB.out hb); have NB573_575 := am (nel hg BK573.out); have NB575_573 := am (ner hg BK573.out); replace BK573 := am (blk_below BK573.out hb); have NB574_575 := am (nel hg BK574.out); have NB575_574 := am (ner hg BK574.out); replace BK574 := am (blk_below BK574.out hb); clear hb hbox hg))
 replace BK573 := am (blk_drew BK573.out)
 replace BK574 := am (blk_drew BK574.out)
 replace BK575 := am (blk_drew BK575.out)
 replace HB := am (below_drew1 HB.out)
 refine start_ (n := 5) (S := fun w' => w'.cell? ⟨gb573, 0, none⟩ = some (.bool a0_0) ∧ w'.cell? ⟨gb573, 1, none⟩ = some (.slice A0_1 l0_1.length c0_1) ∧ w'.cell? ⟨gb574, 0, none⟩ = some (.bool a1_0) ∧ w'.cell? ⟨gb574, 1, none⟩ = some (.slice A1_1 l1_1.length c1_1)) (ds := []) #[false, false, false, false, false] (by kernel_rfl) rfl rfl ⟨(blk_cell BK573.out 0).trans rfl, (blk_cell BK573.out 1).trans rfl, (blk_cell BK574.out 0).trans rfl, (blk_cell BK574.out 1).trans rfl⟩ (fun hHeld => ?_)
 generalize w7.drew = w8 at BK573 BK574 BK575 HB hHeld ⊢
 refine take_ (i := 0) (N := some 5) (v := ?_) (a' := ?_) #[true, false, false, false, false] rfl rfl (by kernel_rfl) (fun _ _ _ h => h) (Or.inl ⟨by rfl, ?_⟩) hHeld ?_ ?_
 rotate_left
 ·
  rintro w' ⟨s0, s1, s2, s3⟩
  go_simp
  with_reducible rfl
 rotate_left
 ·
  simp only [Act.put, sI_, s0_, s1_, i64_w, i32_w]
  rfl
 refine take_ (i := 1) (N := some 6) (v := ?_) (a' := ?_) #[true, true, false, false, false] rfl rfl (by kernel_rfl) (fun _ _ _ h => h) (Or.inl ⟨by rfl, ?_⟩) hHeld ?_ ?_
 rotate_left
 ·
  rintro w' ⟨s0, s1, s2, s3⟩
  go_simp
  with_reducible rfl
 rotate_left
 ·
  simp only [Act.put, sI_, s0_, s1_, i64_w, i32_w]
  rfl
 refine one_ (i := 2) (N := some 7) #[true, true, true, false, false] rfl rfl (by kernel_rfl) (by decide) (fun K hK => ?_)
 refine goes_ Try.func55 (by kernel_rfl) rfl #[.agg #[.bool a1_0, .slice A1_1 l1_1.length c1_1]] (by rfl) rfl rfl (by (try simp only [List.map_toArray, List.map_cons, List.map_nil]); rfl) ?_
 with_reducible refine (whole_neg.calls k a1_0 _ _ l1_1 t576 t577 _ ?side1 ?side2 A3.out).mono ?_
 (case side1 => repeat (exact (Kd.C_below HR1_1.out HB.out)))
 (case side2 => exact HC1_1.out)
 rintro e w9 ⟨v578, rfl, ho0, hb⟩
 refine ⟨_, rfl, ?_⟩
 have HO579 := am (Kd.R_lower ho0 (below_size HB.out))
 replace BK573 := am (blk_below BK573.out hb)
 replace BK574 := am (blk_below BK574.out hb)
 replace BK575 := am (blk_below BK575.out hb)
 replace HB := am (below_step HB.out hb)
 try clear hb
 try clear ho0
 obtain ⟨Ao10, co10, eo10⟩ := Kd.R_slice HO579.out
 (subst eo10)
 refine hK.out _ _ ⟨(blk_cell BK573.out 0).trans rfl, (blk_cell BK573.out 1).trans rfl, (blk_cell BK574.out 0).trans rfl, (blk_cell BK574.out 1).trans rfl⟩ (fun hHeld => ?_)
 clear hK K
 refine norm_ (a' := ?_) ?_ ?_
 rotate_left
 ·
  show Act.put _ (some 7) _ = _
  simp only [Act.put, sI_, s0_, s1_, i64_w, i32_w]
  rfl
 refine one_ (i := 3) (N := some 8) #[true, true, true, true, false] rfl rfl (by kernel_rfl) (by decide) (fun K hK => ?_)
 refine goes_ Try.func48 (by kernel_rfl) rfl #[.agg #[.bool a0_0, .slice A0_1 l0_1.length c0_1], .agg #[.bool t576, .slice Ao10 t577.length co10]] (by rfl) rfl rfl (by (try simp only [List.map_toArray, List.map_cons, List.map_nil]); rfl) ?_
 with_reducible refine (whole_add.calls k a0_0 _ _ l0_1 t576 _ _ t577 t580 t581 _ ?side1 ?side2 ?side3 ?side4 A4.out).mono ?_
 (case side1 => repeat (exact (Kd.C_below HR0_1.out HB.out)))
 (case side2 => exact HC0_1.out)
 (case side3 => exact (Kd.R_reads' HO579.out).2.2)
 (case side4 => exact (Kd.R_reads' HO579.out).2.1)
 rintro e w11 ⟨v582, rfl, ho0, hb⟩
 refine ⟨_, rfl, ?_⟩
 have HO583 := am (Kd.R_lower (Kd.R_new' ho0 (Kd.R_lt HO579.out)) (below_size HB.out))
 replace HO579 := am (Kd.R_elder' HO579.out (Kd.R_base ho0) hb)
 replace BK573 := am (blk_below BK573.out hb)
 replace BK574 := am (blk_below BK574.out hb)
 replace BK575 := am (blk_below BK575.out hb)
 replace HB := am (below_step HB.out hb)
 try clear hb
 try clear ho0
 obtain ⟨Ao13, co13, eo13⟩ := Kd.R_slice HO583.out
 (subst eo13)
 refine hK.out _ _ ⟨(blk_cell BK573.out 0).trans rfl, (blk_cell BK573.out 1).trans rfl, (blk_cell BK574.out 0).trans rfl, (blk_cell BK574.out 1).trans rfl⟩ (fun hHeld => ?_)
 clear hK K
 refine norm_ (a' := ?_) ?_ ?_
 rotate_left
 ·
  show Act.put _ (some 8) _ = _
  simp only [Act.put, sI_, s0_, s1_, i64_w, i32_w]
  rfl
 refine one_ (i := 4) (N := none) #[true, true, true, true, true] rfl rfl (by kernel_rfl) (by decide) (fun K hK => ?_)
 have hs12 : w11.cell? ⟨gb575, 0, none⟩ = some (.bool false) := (blk_cell BK575.out 0).trans rfl
 have hfs12 := blk_frozen BK575.out 0
 have hns12_0 := NB573_575.out
 have hns12_1 := NB574_575.out
 have hms12_0 := NB575_573.out
 have hms12_1 := NB575_574.out
 have hs14 : w11.cell? ⟨gb575, 1, none⟩ = some (.slice none 0 0) := (blk_cell BK575.out 1).trans rfl
 have hfs14 := blk_frozen BK575.out 1
 have hns14_0 := NB573_575.out
 have hns14_1 := NB574_575.out
 have hms14_0 := NB575_573.out
 have hms14_1 := NB575_574.out
 refine skip_ (w1 := ?_) (by rfl) rfl ?_ ?_
 rotate_left
 ·
  go_simp
  rfl
 refine hK.out _ _ ⟨((cell_far (p := ⟨gb575, _, none⟩) NB573_575.out _).trans (((cell_far (p := ⟨gb575, _, none⟩) NB573_575.out _).trans (hHeld.1)))), ((cell_far (p := ⟨gb575, _, none⟩) NB573_575.out _).trans (((cell_far (p := ⟨gb575, _, none⟩) NB573_575.out _).trans (hHeld.2.1)))), ((cell_far (p := ⟨gb575, _, none⟩) NB574_575.out _).trans (((cell_far (p := ⟨gb575, _, none⟩) NB574_575.out _).trans (hHeld.2.2.1)))), ((cell_far (p := ⟨gb575, _, none⟩) NB574_575.out _).trans (((cell_far (p := ⟨gb575, _, none⟩) NB574_575.out _).trans (hHeld.2.2.2))))⟩ (fun hHeld => ?_)
 clear hK K
 refine done_ (by kernel_rfl) ?_
 try go_wp2
 refine bodyPost_ret (results_cell_row rfl _ _ gb575 25 #[.bool t580, .slice Ao13 t581.length co13] (0, 0) _ rfl (by refine blk_put (cs := #[.bool t580, .slice none 0 0]) ?_ 1 _ rfl; refine blk_put (cs := #[.bool false, .slice none 0 0]) ?_ 0 _ rfl; exact BK575.out) Try.underlying25 rfl (by kernel_rfl)) rfl ?_
 exact ⟨_, by rfl, by exact Kd.R_mono (Kd.R_far (p := ⟨gb575, 1, none⟩) (Kd.R_far (p := ⟨gb575, 0, none⟩) (Kd.R_types HO583.out BK575.out (by decide)) (fun _ hk => hk.2) (.bool t580)) (fun _ hk => hk.2) (.slice Ao13 t581.length co13)) (fun _ hk => trivial), by repeat ((with_reducible first | exact HB.out | refine below_set ?_ GE575.out))⟩

/-! ### whole_Neg: function 25 -/
def whole_Neg.f (k : Nat) (a0_0 : Bool) (l0_1 : List Int) : Option (Bool × List Int) := (whole_neg.f k a0_0 l0_1).bind fun bt641 => (some (bt641.1, bt641.2))
theorem whole_Neg.mono : ∀ a0 a1 k, LeO (whole_Neg.f k a0 a1) (whole_Neg.f (k + 1) a0 a1) := by
 intro a0 a1 k
 unfold whole_Neg.f
 repeat' first
   | (with_reducible exact whole_neg.mono _ _ _)
   | (with_reducible exact LeO.refl _)
   | (with_reducible refine LeO.bind ?_ (fun _ => ?_))
set_option maxHeartbeats 8000000 in
set_option maxRecDepth 100000 in
theorem whole_Neg.calls (k : Nat) (a0_0 : Bool) (A0_1 : Option Addr) (c0_1 : Nat) (l0_1 : List Int) (r1 : Bool) (r2 : List Int) (w : World) (hr0_1 : Kd.C (Kd.int .u32) w A0_1 l0_1.length l0_1) (hc0_1 : l0_1.length ≤ c0_1) (h : whole_Neg.f k a0_0 l0_1 = some (r1, r2)) :
  Calls Try.prog 25 #[.agg #[.bool a0_0, .slice A0_1 l0_1.length c0_1]] w fun e w' => ∃ v1_ : Value, e = .returned (.agg #[.bool r1, v1_]) ∧ Kd.R (Kd.int .u32) 78 w' w.heap.size (fun _ => True) v1_ r2 ∧ Below w.heap.size w w' := by
 have hu25 := Try.underlying25
 have HR0_1 := am hr0_1
 have HC0_1 := am hc0_1
 clear hr0_1 hc0_1
 have HB := am (Below.refl w.heap.size w)
 have H : ((whole_neg.f k a0_0 l0_1).bind fun bt641 => (some (bt641.1, bt641.2))) = some (r1, r2) := h
 clear h
 obtain ⟨⟨t641, t642⟩, A2, H⟩ := bindE H
 replace H : (some (t641, t642)) = some (r1, r2) := H
 simp only [Option.some.injEq, Prod.mk.injEq] at H
 obtain ⟨rfl, rfl⟩ := H
 go_enter Try.func25, Try.ntmps25
 go_wp2_with (first | ((with_reducible refine gate_dst (N := 1) rfl ?_); refine box_event ?hg (N := 1) ?hd (cs := #[.bool a0_0, .slice A0_1 l0_1.length c0_1]) (t := 25) ?hr ?_; (case hd => rfl); (case hg => rfl); (case hr => (go_simp; done)); intro gb639 hg w3 hbox hb; have BK639 := am hbox; have GW639 := am (gel hg HB.out); have GE639 := am (gel hg HB.out); replace HB := am (below_step HB.out hb); clear hb hbox hg) | ((with_reducible refine gate_dst (N := 2) rfl ?_); refine box_event ?hg (N := 2) ?hd (cs := #[.bool false, .slice none 0 0]) (t := 25) ?hr ?_; (case hd => rfl); (case hg => rfl); (case hr => (go_simp; done)); intro gb640 hg w4 hbox hb; have BK640 := am hbox; have GW640 := am (gel hg HB.out); have GE640 := am (gel hg HB.out); replace HB := am (below_step HB.out hb); have NB639_640 := am (nel hg BK639.out); have NB640_639 := am (ner hg BK639.out); replace BK639 := am (blk_below BK639.out hb); clear hb hbox hg; have hnb5 := NB639_640.out; have hnc5 := NB640_639.out; have hcz6_0 : w4.cell? ⟨gb639, 0, none⟩ = some (.bool a0_0) := (blk_cell BK639.out 0).trans rfl; have hcz6_1 : w4.cell? ⟨gb639, 1, none⟩ = some (.slice A0_1 l0_1.length c0_1) := (blk_cell BK639.out 1).trans rfl; have hfz6_0 := blk_frozen BK639.out 0; have hfz6_1 := blk_frozen BK639.out 1) | ((with_reducible refine gate_callee (f := 55) rfl ?_); refine goesL_ (some 4) rfl rfl Try.func55 (by kernel_rfl) rfl #[.agg #[.bool a0_0, .slice A0_1 l0_1.length c0_1]] rfl (by (try simp only [List.map_toArray, List.map_cons, List.map_nil]); rfl) ?_; (with_reducible refine (whole_neg.calls k a0_0 _ _ l0_1 t641 t642 _ ?side1 ?side2 A2.out).mono ?_); (case side1 => repeat (exact (Kd.C_below HR0_1.out HB.out))); (case side2 => exact HC0_1.out); rintro e w7 ⟨v643, rfl, ho0, hb⟩; refine ⟨_, rfl, ?_⟩; have HO644 := am (Kd.R_lower ho0 (below_size HB.out)); replace BK639 := am (blk_below BK639.out hb); replace BK640 := am (blk_below BK640.out hb); replace HB := am (below_step HB.out hb); (try clear hb); (try clear ho0); have hcz8_0 : w7.cell? ⟨gb640, 0, none⟩ = some (.bool false) := (blk_cell BK640.out 0).trans rfl; have hcz8_1 : w7.cell? ⟨gb640, 1, none⟩ = some (.slice none 0 0) := (blk_cell BK640.out 1).trans rfl; have hfz8_0 := blk_frozen BK640.out 0; have hfz8_1 := blk_frozen BK640.out 1; obtain ⟨Ao9, co9, eo9⟩ := Kd.R_slice HO644.out; subst eo9))
 refine bodyPost_ret (results_cell_row rfl _ _ gb640 25 #[.bool t641, .slice Ao9 t642.length co9] (0, 0) _ rfl (by refine blk_put (cs := #[.bool t641, .slice none 0 0]) ?_ 1 _ rfl; refine blk_put (cs := #[.bool false, .slice none 0 0]) ?_ 0 _ rfl; exact BK640.out) Try.underlying25 rfl (by kernel_rfl)) rfl ?_
 exact ⟨_, by rfl, by exact Kd.R_mono (Kd.R_far (p := ⟨gb640, 1, none⟩) (Kd.R_far (p := ⟨gb640, 0, none⟩) (Kd.R_types HO644.out BK640.out (by decide)) (fun _ hk => hk.2) (.bool t641)) (fun _ hk => hk.2) (.slice Ao9 t642.length co9)) (fun _ hk => trivial), by repeat ((with_reducible first | exact HB.out | refine below_set ?_ GE640.out))⟩

end Go.Proofs.Ytmfmojldebhboaa.ZWhole
