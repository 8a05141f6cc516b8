-- printed by zprint.py, a program of this session's
import Derived.Test.YtmfmojldebhboaaZWhole0
import Derived.Test.YtmfmojldebhboaaZWholegDiv
import Derived.Test.YtmfmojldebhboaaZWholegSize
import Derived.Test.YtmfmojldebhboaaZWholegWAdd
namespace Go.Proofs.Ytmfmojldebhboaa.ZWhole
open Go.RowKit Go.Proofs.YtmfmojldebhboaaW.PrintWords Go.Proofs.YtmfmojldebhboaaW.PrintLast Go.Proofs.YtmfmojldebhboaaW.PrintMore
set_option linter.unusedVariables false
set_option linter.unusedSimpArgs false

/-! ### whole_Floor: function 12 -/
def whole_Floor.j0 : Nat → Bool → Bool → List Int → Bool → List Int → Bool → List Int → Option (Bool × List Int × Bool × List Int × Int)
 | 0, _, _, _, _, _, _, _ => none
 | k + 1, x47, x374000, x374001, x392000, x392001, x393000, x393001 => if x47 = true then ((whole_norm.f k true (([1] : List Int))).bind fun bt396 => ((whole_add.f k x392000 x392001 bt396.1 bt396.2).bind fun bt400 => ((whole_add.f k x393000 x393001 x374000 x374001).bind fun bt404 => (some (bt400.1, bt400.2, bt404.1, bt404.2, 0))))) else (some (x392000, x392001, x393000, x393001, 0))
def whole_Floor.f (k : Nat) (a0_0 : Bool) (l0_1 : List Int) (a1_0 : Bool) (l1_1 : List Int) : Option (Bool × List Int × Bool × List Int × Int) := (nat_DivMod.f k l0_1 l1_1).bind fun bt376 => (if bt376.2.2 = 0 then ((whole_norm.f k (a0_0 != a1_0) bt376.1).bind fun bt383 => ((whole_norm.f k a0_0 bt376.2.1).bind fun bt387 => (if (a0_0 != a1_0) = true then (whole_Floor.j0 k (decide ((bt387.2.length : Int) > 0)) a1_0 l1_1 bt383.1 bt383.2 bt387.1 bt387.2) else (whole_Floor.j0 k false a1_0 l1_1 bt383.1 bt383.2 bt387.1 bt387.2)))) else (some (false, ([] : List Int), false, ([] : List Int), bt376.2.2)))
theorem whole_Floor.mono_l : ∀ k, (∀ y0 y1 y2 y3 y4 y5 y6, LeO (whole_Floor.j0 k y0 y1 y2 y3 y4 y5 y6) (whole_Floor.j0 (k + 1) y0 y1 y2 y3 y4 y5 y6))
 | 0 => fun _ _ _ _ _ _ _ r h => by simp [whole_Floor.j0] at h
 | k + 1 => by
  have ih0 := whole_Floor.mono_l k
  ·
   intro y0 y1 y2 y3 y4 y5 y6
   unfold whole_Floor.j0
   repeat' first
   | (with_reducible exact whole_add.mono _ _ _ _ _)
   | (with_reducible exact whole_norm.mono _ _ _)
   | (with_reducible exact LeO.refl _)
   | (with_reducible refine LeO.ite ?_ ?_)
   | (with_reducible refine LeO.bind ?_ (fun _ => ?_))
theorem whole_Floor.mono : ∀ a0 a1 a2 a3 k, LeO (whole_Floor.f k a0 a1 a2 a3) (whole_Floor.f (k + 1) a0 a1 a2 a3) := by
 intro a0 a1 a2 a3 k
 have ih0 := whole_Floor.mono_l k
 unfold whole_Floor.f
 repeat' first
   | (with_reducible exact ih0 _ _ _ _ _ _ _)
   | (with_reducible exact nat_DivMod.mono _ _ _)
   | (with_reducible exact whole_norm.mono _ _ _)
   | (with_reducible exact LeO.refl _)
   | (with_reducible refine LeO.ite ?_ ?_)
   | (with_reducible refine LeO.bind ?_ (fun _ => ?_))
def whole_Floor.T4 : Bool × List (List Nat × List Nat) := (true, [([], []), ([0], [0]), ([], []), ([2], [2]), ([1, 3], [1, 3]), ([], []), ([4, 5], [4, 5]), ([], []), ([7], [7]), ([], []), ([8, 9, 6], [8, 9]), ([], []), ([], []), ([11, 6, 10, 0, 1, 2, 3, 4, 5, 6, 11, 12], [6, 11]), ([12, 10, 13, 0, 1, 2, 3, 4, 5, 6, 7, 8, 9, 10, 11, 12, 13], [10, 12])])
def whole_Floor.B4 : List Nat := [0, 1, 0, 4, 15, 0, 63, 0, 128, 0, 1023, 0, 0, 8191, 16383]
theorem whole_Floor.tab4 : rtab .any (opsOf Try.f12 4) = whole_Floor.T4 := by kernel_rfl
theorem whole_Floor.bits4 : waitsOk whole_Floor.T4.2 whole_Floor.B4 = true := by kernel_rfl
def whole_Floor.T6 : Bool × List (List Nat × List Nat) := (true, [([], []), ([], []), ([1], [1]), ([0, 2, 2], [0, 2]), ([], []), ([], []), ([4, 5, 3], [4, 5]), ([3, 6, 0, 1, 2, 3], [3]), ([6, 7, 0, 1, 2, 3, 4, 5, 6, 7], [6])])
def whole_Floor.B6 : List Nat := [0, 0, 2, 7, 0, 0, 63, 127, 255]
theorem whole_Floor.tab6 : rtab .any (opsOf Try.f12 6) = whole_Floor.T6 := by kernel_rfl
theorem whole_Floor.bits6 : waitsOk whole_Floor.T6.2 whole_Floor.B6 = true := by kernel_rfl
set_option maxHeartbeats 8000000 in
set_option maxRecDepth 100000 in
theorem whole_Floor.calls (k : Nat) (a0_0 : Bool) (A0_1 : Option Addr) (c0_1 : Nat) (l0_1 : List Int) (a1_0 : Bool) (A1_1 : Option Addr) (c1_1 : Nat) (l1_1 : List Int) (r1 : Bool) (r2 : List Int) (r3 : Bool) (r4 : List Int) (r5 : Int) (w : World) (hr0_1 : Kd.C (Kd.int .u32) w A0_1 l0_1.length l0_1) (hc0_1 : l0_1.length ≤ c0_1) (hr1_1 : Kd.C (Kd.int .u32) w A1_1 l1_1.length l1_1) (hc1_1 : l1_1.length ≤ c1_1) (h : whole_Floor.f k a0_0 l0_1 a1_0 l1_1 = some (r1, r2, r3, r4, r5)) :
  Calls Try.prog 12 #[.agg #[.bool a0_0, .slice A0_1 l0_1.length c0_1], .agg #[.bool a1_0, .slice A1_1 l1_1.length c1_1]] w fun e w' => ∃ v1_ v3_ : Value, e = .returned (.tuple #[.agg #[.bool r1, v1_], .agg #[.bool r3, v3_], .int .i64 r5]) ∧ Kd.R (Kd.int .u32) 78 w' w.heap.size (fun k_ => some k_ ≠ (v3_ : Value).ownBlock) v1_ r2 ∧ Kd.R (Kd.int .u32) 78 w' w.heap.size (fun k_ => some k_ ≠ (v1_ : Value).ownBlock) v3_ r4 ∧ Below w.heap.size w w' := by
 have hu25 := Try.underlying25
 have HR0_1 := am hr0_1
 have HC0_1 := am hc0_1
 clear hr0_1 hc0_1
 have HR1_1 := am hr1_1
 have HC1_1 := am hc1_1
 clear hr1_1 hc1_1
 have HB := am (Below.refl w.heap.size w)
 have H : ((nat_DivMod.f k l0_1 l1_1).bind fun bt376 => (if bt376.2.2 = 0 then ((whole_norm.f k (a0_0 != a1_0) bt376.1).bind fun bt383 => ((whole_norm.f k a0_0 bt376.2.1).bind fun bt387 => (if (a0_0 != a1_0) = true then (whole_Floor.j0 k (decide ((bt387.2.length : Int) > 0)) a1_0 l1_1 bt383.1 bt383.2 bt387.1 bt387.2) else (whole_Floor.j0 k false a1_0 l1_1 bt383.1 bt383.2 bt387.1 bt387.2)))) else (some (false, ([] : List Int), false, ([] : List Int), bt376.2.2)))) = some (r1, r2, r3, r4, r5) := h
 clear h
 obtain ⟨⟨t376, t377, t378⟩, A3, H⟩ := bindE H
 dsimp only at H
 by_cases c4 : t378 = 0
 ·
  rw [if_pos c4] at H
  have c4b0 : (t378 == 0) = true := beq_iff_eq.mpr c4
  have c4b1 : (t378 != 0) = false := bne_eq_false_iff_eq.mpr c4
  clear c4
  obtain ⟨⟨t383, t384⟩, A5, H⟩ := bindE H
  dsimp only at H
  obtain ⟨⟨t387, t388⟩, A6, H⟩ := bindE H
  dsimp only at H
  have HC7 := am H
  clear H
  go_enter Try.func12, Try.ntmps12
  try go_wp2_with (first | ((with_reducible refine gate_dst (N := 2) rfl ?_); (try (refine gate_guard (by rfl) ?_; dsimp only)); refine box_event ?hg (N := 2) ?hd (cs := #[.bool a0_0, .slice A0_1 l0_1.length c0_1]) (t := 25) ?hr ?_; (case hd => rfl); (case hg => rfl); (case hr => (go_simp; done)); intro gb372 hg w8 hbox hb; have BK372 := am hbox; have GW372 := am (gel hg HB.out); have GE372 := am (gel hg HB.out); replace HB := am (below_step HB.out hb); clear hb hbox hg) | ((with_reducible refine gate_dst (N := 3) rfl ?_); (try (refine gate_guard (by rfl) ?_; dsimp only)); refine box_event ?hg (N := 3) ?hd (cs := #[.bool a1_0, .slice A1_1 l1_1.length c1_1]) (t := 25) ?hr ?_; (case hd => rfl); (case hg => rfl); (case hr => (go_simp; done)); intro gb373 hg w9 hbox hb; have BK373 := am hbox; have GW373 := am (gel hg HB.out); have GE373 := am (gel hg HB.out); replace HB := am (below_step HB.out hb); have NB372_373 := am (nel hg BK372.out); have NB373_372 := am (ner hg BK372.out); replace BK372 := am (blk_below BK372.out hb); clear hb hbox hg) | ((with_reducible refine gate_dst (N := 4) rfl ?_); (try (refine gate_guard (by rfl) ?_; dsimp only)); refine box_event ?hg (N := 4) ?hd (cs := #[.bool false, .slice none 0 0]) (t := 25) ?hr ?_; (case hd => rfl); (case hg => rfl); (case hr => (go_simp; done)); intro gb374 hg w10 hbox hb; have BK374 := am hbox; have GW374 := am (gel hg HB.out); have GE374 := am (gel hg HB.out); replace HB := am (below_step HB.out hb); have NB372_374 := am (nel hg BK372.out); have NB374_372 := am (ner hg BK372.out); replace BK372 := am (blk_below BK372.out hb); have NB373_374 := am (nel hg BK373.out); have NB374_373 := am (ner hg BK373.out); replace BK373 := am (blk_below BK373.out hb); clear hb hbox hg) | ((with_reducible refine gate_dst (N := 5) rfl ?_); (try (refine gate_guard (by rfl) ?_; dsimp only)); refine box_event ?hg (N := 5) ?hd (cs := #[.bool false, .slice none 0 0]) (t := 25) ?hr ?_; (case hd => rfl); (case hg => rfl); (case hr => (go_simp; done)); intro gb375 hg w11 hbox hb; have BK375 := am hbox; have GW375 := am (gel hg HB.out); have GE375 := am (gel hg HB.out); replace HB := am (below_step HB.out hb); have NB372_375 := am (nel hg BK372.out); have NB375_372 := am (ner hg BK372.out); replace BK372 := am (blk_below BK372.out hb); have NB373_375 := am (nel hg BK373.out); have NB375_373 := am (ner hg BK373.out); replace BK373 := am (blk_below BK373.out hb); have NB374_375 := am (nel hg BK374.out); have NB375_374 := am (ner hg BK374.out); replace BK374 := am (blk_below BK374.out hb); clear hb hbox hg; have hnb12 := NB372_373.out; have hnc12 := NB373_372.out; have hnb13 := NB372_374.out; have hnc13 := NB374_372.out; have hnb14 := NB372_375.out; have hnc14 := NB375_372.out; have hcz15_0 : w11.cell? ⟨gb372, 0, none⟩ = some (.bool a0_0) := (blk_cell BK372.out 0).trans rfl; have hcz15_1 : w11.cell? ⟨gb372, 1, none⟩ = some (.slice A0_1 l0_1.length c0_1) := (blk_cell BK372.out 1).trans rfl; have hfz15_0 := blk_frozen BK372.out 0; have hfz15_1 := blk_frozen BK372.out 1; have hnb16 := NB373_374.out; have hnc16 := NB374_373.out; have hnb17 := NB373_375.out; have hnc17 := NB375_373.out; have hcz18_0 : w11.cell? ⟨gb373, 0, none⟩ = some (.bool a1_0) := (blk_cell BK373.out 0).trans rfl; have hcz18_1 : w11.cell? ⟨gb373, 1, none⟩ = some (.slice A1_1 l1_1.length c1_1) := (blk_cell BK373.out 1).trans rfl; have hfz18_0 := blk_frozen BK373.out 0; have hfz18_1 := blk_frozen BK373.out 1) | ((with_reducible refine gate_callee (f := 46) rfl ?_); refine goesL_ (some 17) rfl rfl Try.func46 (by kernel_rfl) rfl #[.slice A0_1 l0_1.length c0_1, .slice A1_1 l1_1.length c1_1] rfl (by (try simp only [List.map_toArray, List.map_cons, List.map_nil]); rfl) ?_; (with_reducible refine (nat_DivMod.calls k _ _ l0_1 _ _ l1_1 t376 t377 t378 _ ?side1 ?side2 ?side3 ?side4 A3.out).mono ?_); (case side1 => repeat (exact (Kd.C_below HR0_1.out HB.out))); (case side2 => exact HC0_1.out); (case side3 => repeat (exact (Kd.C_below HR1_1.out HB.out))); (case side4 => exact HC1_1.out); rintro e w19 ⟨v379, v381, rfl, ho0, ho1, hb⟩; refine ⟨_, rfl, ?_⟩; have HO380 := am (Kd.R_lower ho0 (below_size HB.out)); have HO382 := am (Kd.R_lower ho1 (below_size HB.out)); replace BK372 := am (blk_below BK372.out hb); replace BK373 := am (blk_below BK373.out hb); replace BK374 := am (blk_below BK374.out hb); replace BK375 := am (blk_below BK375.out hb); replace HB := am (below_step HB.out hb); (try clear hb); (try clear ho0); (try clear ho1); obtain ⟨Ao20, co20, eo20⟩ := Kd.R_slice HO380.out; subst eo20; obtain ⟨Ao21, co21, eo21⟩ := Kd.R_slice HO382.out; subst eo21))
  replace HO380 := am (Kd.R_drew HO380.out)
  replace HO382 := am (Kd.R_drew HO382.out)
  replace BK372 := am (blk_drew BK372.out)
  replace BK373 := am (blk_drew BK373.out)
  replace BK374 := am (blk_drew BK374.out)
  replace BK375 := am (blk_drew BK375.out)
  replace HB := am (below_drew1 HB.out)
  refine start_ (n := 15) (S := fun w' => w'.cell? ⟨gb372, 0, none⟩ = some (.bool a0_0) ∧ w'.cell? ⟨gb372, 1, none⟩ = some (.slice A0_1 l0_1.length c0_1) ∧ w'.cell? ⟨gb373, 0, none⟩ = some (.bool a1_0) ∧ w'.cell? ⟨gb373, 1, none⟩ = some (.slice A1_1 l1_1.length c1_1)) (ds := []) #[false, false, false, false, false, false, false, false, false, false, false, false, false, false, false] (by kernel_rfl) rfl rfl ⟨(blk_cell BK372.out 0).trans rfl, (blk_cell BK372.out 1).trans rfl, (blk_cell BK373.out 0).trans rfl, (blk_cell BK373.out 1).trans rfl⟩ (fun hHeld => ?_); refine with_tabW whole_Floor.tab4 whole_Floor.bits4 (fun HT_ HW_ => ?_)
  generalize w19.drew = w22 at HO380 HO382 BK372 BK373 BK374 BK375 HB hHeld ⊢
  refine pure_ (i := 0) (N := some 26) (v := ?_) (a' := ?_) #[true, false, false, false, false, false, false, false, false, false, false, false, false, false, false] rfl rfl (any_of HT_.out (by kernel_rfl)) (fun _ _ _ h => h) (Or.inl ⟨by rfl, ?_⟩) ?_ ?_
  rotate_left
  ·
   intro w'
   go_simp
   with_reducible rfl
  rotate_left
  ·
   simp only [Act.put, sI_, s0_, s1_, i64_w, i32_w]
   rfl
  refine pure_ (i := 2) (N := some 28) (v := ?_) (a' := ?_) #[true, false, true, false, false, false, false, false, false, false, false, false, false, false, false] rfl rfl (any_of HT_.out (by kernel_rfl)) (fun _ _ _ h => h) (Or.inl ⟨by rfl, ?_⟩) ?_ ?_
  rotate_left
  ·
   intro w'
   go_simp
   with_reducible rfl
  rotate_left
  ·
   simp only [Act.put, sI_, s0_, s1_, i64_w, i32_w]
   rfl
  refine pure_ (i := 5) (N := some 31) (v := ?_) (a' := ?_) #[true, false, true, false, false, true, false, false, false, false, false, false, false, false, false] rfl rfl (any_of HT_.out (by kernel_rfl)) (fun _ _ _ h => h) (Or.inl ⟨by rfl, ?_⟩) ?_ ?_
  rotate_left
  ·
   intro w'
   go_simp
   with_reducible rfl
  rotate_left
  ·
   simp only [Act.put, sI_, s0_, s1_, i64_w, i32_w]
   rfl
  refine pure_ (i := 7) (N := some 33) (v := ?_) (a' := ?_) #[true, false, true, false, false, true, false, true, false, false, false, false, false, false, false] rfl rfl (any_of HT_.out (by kernel_rfl)) (fun _ _ _ h => h) (Or.inl ⟨by rfl, ?_⟩) ?_ ?_
  rotate_left
  ·
   intro w'
   go_simp
   with_reducible rfl
  rotate_left
  ·
   simp only [Act.put, sI_, s0_, s1_, i64_w, i32_w]
   rfl
  refine pure_ (i := 9) (N := some 35) (v := ?_) (a' := ?_) #[true, false, true, false, false, true, false, true, false, true, false, false, false, false, false] rfl rfl (any_of HT_.out (by kernel_rfl)) (fun _ _ _ h => h) (Or.inl ⟨by rfl, ?_⟩) ?_ ?_
  rotate_left
  ·
   intro w'
   go_simp
   with_reducible rfl
  rotate_left
  ·
   simp only [Act.put, sI_, s0_, s1_, i64_w, i32_w]
   rfl
  refine take_ (i := 1) (N := some 27) (v := ?_) (a' := ?_) #[true, true, true, false, false, true, false, true, false, true, false, false, false, false, false] rfl rfl (take_ofW HT_.out HW_.out (by kernel_rfl)) (fun _ _ _ h => h) (Or.inl ⟨by rfl, ?_⟩) hHeld ?_ ?_
  rotate_left
  ·
   rintro w' ⟨s0, s1, s2, s3⟩
   go_simp
   with_reducible rfl
  rotate_left
  ·
   simp only [Act.put, sI_, s0_, s1_, i64_w, i32_w]
   rfl
  refine take_ (i := 3) (N := some 29) (v := ?_) (a' := ?_) #[true, true, true, true, false, true, false, true, false, true, false, false, false, false, false] rfl rfl (take_ofW HT_.out HW_.out (by kernel_rfl)) (fun _ _ _ h => h) (Or.inl ⟨by rfl, ?_⟩) hHeld ?_ ?_
  rotate_left
  ·
   rintro w' ⟨s0, s1, s2, s3⟩
   go_simp
   with_reducible rfl
  rotate_left
  ·
   simp only [Act.put, sI_, s0_, s1_, i64_w, i32_w]
   rfl
  refine pure_ (i := 4) (N := some 30) (v := ?_) (a' := ?_) #[true, true, true, true, true, true, false, true, false, true, false, false, false, false, false] rfl rfl (any_of HT_.out (by kernel_rfl)) (fun _ _ _ h => h) (Or.inl ⟨by rfl, ?_⟩) ?_ ?_
  rotate_left
  ·
   intro w'
   go_simp
   with_reducible rfl
  rotate_left
  ·
   simp only [Act.put, sI_, s0_, s1_, i64_w, i32_w]
   rfl
  refine take_ (i := 8) (N := some 34) (v := ?_) (a' := ?_) #[true, true, true, true, true, true, false, true, true, true, false, false, false, false, false] rfl rfl (take_ofW HT_.out HW_.out (by kernel_rfl)) (fun _ _ _ h => h) (Or.inl ⟨by rfl, ?_⟩) hHeld ?_ ?_
  rotate_left
  ·
   rintro w' ⟨s0, s1, s2, s3⟩
   go_simp
   with_reducible rfl
  rotate_left
  ·
   simp only [Act.put, sI_, s0_, s1_, i64_w, i32_w]
   rfl
  refine join_ (σ := Value × Value × Nat × Nat) 2 #[true, true, true, true, true, true, true, true, true, true, true, true, true, false, false] (fun s_ => [(32, .agg #[.bool t383, s_.1]), (36, .agg #[.bool t387, s_.2.1]), (10, .pointer (some ⟨s_.2.2.1, 0, none⟩)), (11, .pointer (some ⟨s_.2.2.2, 0, none⟩))]) (fun s_ w' => (w'.cell? ⟨gb372, 0, none⟩ = some (.bool a0_0) ∧ w'.cell? ⟨gb372, 1, none⟩ = some (.slice A0_1 l0_1.length c0_1) ∧ w'.cell? ⟨gb373, 0, none⟩ = some (.bool a1_0) ∧ w'.cell? ⟨gb373, 1, none⟩ = some (.slice A1_1 l1_1.length c1_1)) ∧ (Kd.R (Kd.int .u32) 78 w' w.heap.size (fun k_ => some k_ ≠ (.slice Ao21 t377.length co21 : Value).ownBlock ∧ some k_ ≠ (s_.1 : Value).ownBlock ∧ some k_ ≠ (s_.2.1 : Value).ownBlock) (.slice Ao20 t376.length co20) t376) ∧ (Kd.R (Kd.int .u32) 78 w' w.heap.size (fun k_ => some k_ ≠ (.slice Ao20 t376.length co20 : Value).ownBlock ∧ some k_ ≠ (s_.1 : Value).ownBlock ∧ some k_ ≠ (s_.2.1 : Value).ownBlock) (.slice Ao21 t377.length co21) t377) ∧ (Kd.R (Kd.int .u32) 78 w' w.heap.size (fun k_ => some k_ ≠ (.slice Ao20 t376.length co20 : Value).ownBlock ∧ some k_ ≠ (.slice Ao21 t377.length co21 : Value).ownBlock ∧ some k_ ≠ (s_.2.1 : Value).ownBlock) s_.1 t384) ∧ (Kd.R (Kd.int .u32) 78 w' w.heap.size (fun k_ => some k_ ≠ (.slice Ao20 t376.length co20 : Value).ownBlock ∧ some k_ ≠ (.slice Ao21 t377.length co21 : Value).ownBlock ∧ some k_ ≠ (s_.1 : Value).ownBlock) s_.2.1 t388) ∧ (w'.heap[gb372]? = some (.cells #[.bool a0_0, .slice A0_1 l0_1.length c0_1] 25 (0, 0))) ∧ (w'.heap[gb373]? = some (.cells #[.bool a1_0, .slice A1_1 l1_1.length c1_1] 25 (0, 0))) ∧ (w'.heap[gb374]? = some (.cells #[.bool false, .slice none 0 0] 25 (0, 0))) ∧ (w'.heap[gb375]? = some (.cells #[.bool false, .slice none 0 0] 25 (0, 0))) ∧ (w'.heap[s_.2.2.1]? = some (.cells #[.bool false, .slice none 0 0] 25 (0, 0))) ∧ (w'.heap[s_.2.2.2]? = some (.cells #[.bool false, .slice none 0 0] 25 (0, 0))) ∧ (w.heap.size ≤ s_.2.2.1) ∧ (w.heap.size ≤ s_.2.2.1) ∧ (gb372 ≠ s_.2.2.1) ∧ (s_.2.2.1 ≠ gb372) ∧ (gb373 ≠ s_.2.2.1) ∧ (s_.2.2.1 ≠ gb373) ∧ (gb374 ≠ s_.2.2.1) ∧ (s_.2.2.1 ≠ gb374) ∧ (gb375 ≠ s_.2.2.1) ∧ (s_.2.2.1 ≠ gb375) ∧ (s_.2.2.2 ≠ s_.2.2.1) ∧ (s_.2.2.1 ≠ s_.2.2.2) ∧ (w.heap.size ≤ s_.2.2.2) ∧ (w.heap.size ≤ s_.2.2.2) ∧ (gb372 ≠ s_.2.2.2) ∧ (s_.2.2.2 ≠ gb372) ∧ (gb373 ≠ s_.2.2.2) ∧ (s_.2.2.2 ≠ gb373) ∧ (gb374 ≠ s_.2.2.2) ∧ (s_.2.2.2 ≠ gb374) ∧ (gb375 ≠ s_.2.2.2) ∧ (s_.2.2.2 ≠ gb375) ∧ (Below w.heap.size w w')) ?_ ?_
  rotate_left
  ·
   intro hJ6_10_11_12
   refine join_ (σ := Value × Value × Nat) 3 #[true, true, true, true, true, true, true, true, true, true, true, true, false, false, false] (fun s_ => [(32, .agg #[.bool t383, s_.1]), (36, .agg #[.bool t387, s_.2.1]), (10, .pointer (some ⟨s_.2.2, 0, none⟩))]) (fun s_ w' => (w'.cell? ⟨gb372, 0, none⟩ = some (.bool a0_0) ∧ w'.cell? ⟨gb372, 1, none⟩ = some (.slice A0_1 l0_1.length c0_1) ∧ w'.cell? ⟨gb373, 0, none⟩ = some (.bool a1_0) ∧ w'.cell? ⟨gb373, 1, none⟩ = some (.slice A1_1 l1_1.length c1_1)) ∧ (Kd.R (Kd.int .u32) 78 w' w.heap.size (fun k_ => some k_ ≠ (.slice Ao21 t377.length co21 : Value).ownBlock ∧ some k_ ≠ (s_.1 : Value).ownBlock ∧ some k_ ≠ (s_.2.1 : Value).ownBlock) (.slice Ao20 t376.length co20) t376) ∧ (Kd.R (Kd.int .u32) 78 w' w.heap.size (fun k_ => some k_ ≠ (.slice Ao20 t376.length co20 : Value).ownBlock ∧ some k_ ≠ (s_.1 : Value).ownBlock ∧ some k_ ≠ (s_.2.1 : Value).ownBlock) (.slice Ao21 t377.length co21) t377) ∧ (Kd.R (Kd.int .u32) 78 w' w.heap.size (fun k_ => some k_ ≠ (.slice Ao20 t376.length co20 : Value).ownBlock ∧ some k_ ≠ (.slice Ao21 t377.length co21 : Value).ownBlock ∧ some k_ ≠ (s_.2.1 : Value).ownBlock) s_.1 t384) ∧ (Kd.R (Kd.int .u32) 78 w' w.heap.size (fun k_ => some k_ ≠ (.slice Ao20 t376.length co20 : Value).ownBlock ∧ some k_ ≠ (.slice Ao21 t377.length co21 : Value).ownBlock ∧ some k_ ≠ (s_.1 : Value).ownBlock) s_.2.1 t388) ∧ (w'.heap[gb372]? = some (.cells #[.bool a0_0, .slice A0_1 l0_1.length c0_1] 25 (0, 0))) ∧ (w'.heap[gb373]? = some (.cells #[.bool a1_0, .slice A1_1 l1_1.length c1_1] 25 (0, 0))) ∧ (w'.heap[gb374]? = some (.cells #[.bool false, .slice none 0 0] 25 (0, 0))) ∧ (w'.heap[gb375]? = some (.cells #[.bool false, .slice none 0 0] 25 (0, 0))) ∧ (w'.heap[s_.2.2]? = some (.cells #[.bool false, .slice none 0 0] 25 (0, 0))) ∧ (w.heap.size ≤ s_.2.2) ∧ (w.heap.size ≤ s_.2.2) ∧ (gb372 ≠ s_.2.2) ∧ (s_.2.2 ≠ gb372) ∧ (gb373 ≠ s_.2.2) ∧ (s_.2.2 ≠ gb373) ∧ (gb374 ≠ s_.2.2) ∧ (s_.2.2 ≠ gb374) ∧ (gb375 ≠ s_.2.2) ∧ (s_.2.2 ≠ gb375) ∧ (Below w.heap.size w w')) ?_ ?_
   rotate_left
   ·
    intro hJ6_10_11
    refine join_ (σ := Value × Value × Nat) 3 #[true, true, true, true, true, true, true, true, true, true, true, false, true, false, false] (fun s_ => [(32, .agg #[.bool t383, s_.1]), (36, .agg #[.bool t387, s_.2.1]), (11, .pointer (some ⟨s_.2.2, 0, none⟩))]) (fun s_ w' => (w'.cell? ⟨gb372, 0, none⟩ = some (.bool a0_0) ∧ w'.cell? ⟨gb372, 1, none⟩ = some (.slice A0_1 l0_1.length c0_1) ∧ w'.cell? ⟨gb373, 0, none⟩ = some (.bool a1_0) ∧ w'.cell? ⟨gb373, 1, none⟩ = some (.slice A1_1 l1_1.length c1_1)) ∧ (Kd.R (Kd.int .u32) 78 w' w.heap.size (fun k_ => some k_ ≠ (.slice Ao21 t377.length co21 : Value).ownBlock ∧ some k_ ≠ (s_.1 : Value).ownBlock ∧ some k_ ≠ (s_.2.1 : Value).ownBlock) (.slice Ao20 t376.length co20) t376) ∧ (Kd.R (Kd.int .u32) 78 w' w.heap.size (fun k_ => some k_ ≠ (.slice Ao20 t376.length co20 : Value).ownBlock ∧ some k_ ≠ (s_.1 : Value).ownBlock ∧ some k_ ≠ (s_.2.1 : Value).ownBlock) (.slice Ao21 t377.length co21) t377) ∧ (Kd.R (Kd.int .u32) 78 w' w.heap.size (fun k_ => some k_ ≠ (.slice Ao20 t376.length co20 : Value).ownBlock ∧ some k_ ≠ (.slice Ao21 t377.length co21 : Value).ownBlock ∧ some k_ ≠ (s_.2.1 : Value).ownBlock) s_.1 t384) ∧ (Kd.R (Kd.int .u32) 78 w' w.heap.size (fun k_ => some k_ ≠ (.slice Ao20 t376.length co20 : Value).ownBlock ∧ some k_ ≠ (.slice Ao21 t377.length co21 : Value).ownBlock ∧ some k_ ≠ (s_.1 : Value).ownBlock) s_.2.1 t388) ∧ (w'.heap[gb372]? = some (.cells #[.bool a0_0, .slice A0_1 l0_1.length c0_1] 25 (0, 0))) ∧ (w'.heap[gb373]? = some (.cells #[.bool a1_0, .slice A1_1 l1_1.length c1_1] 25 (0, 0))) ∧ (w'.heap[gb374]? = some (.cells #[.bool false, .slice none 0 0] 25 (0, 0))) ∧ (w'.heap[gb375]? = some (.cells #[.bool false, .slice none 0 0] 25 (0, 0))) ∧ (w'.heap[s_.2.2]? = some (.cells #[.bool false, .slice none 0 0] 25 (0, 0))) ∧ (w.heap.size ≤ s_.2.2) ∧ (w.heap.size ≤ s_.2.2) ∧ (gb372 ≠ s_.2.2) ∧ (s_.2.2 ≠ gb372) ∧ (gb373 ≠ s_.2.2) ∧ (s_.2.2 ≠ gb373) ∧ (gb374 ≠ s_.2.2) ∧ (s_.2.2 ≠ gb374) ∧ (gb375 ≠ s_.2.2) ∧ (s_.2.2 ≠ gb375) ∧ (Below w.heap.size w w')) ?_ ?_
    rotate_left
    ·
     intro hJ6_10_12
     refine join_ (σ := Value × Nat × Nat) 3 #[true, true, true, true, true, true, true, true, true, true, false, true, true, false, false] (fun s_ => [(32, .agg #[.bool t383, s_.1]), (10, .pointer (some ⟨s_.2.1, 0, none⟩)), (11, .pointer (some ⟨s_.2.2, 0, none⟩))]) (fun s_ w' => (w'.cell? ⟨gb372, 0, none⟩ = some (.bool a0_0) ∧ w'.cell? ⟨gb372, 1, none⟩ = some (.slice A0_1 l0_1.length c0_1) ∧ w'.cell? ⟨gb373, 0, none⟩ = some (.bool a1_0) ∧ w'.cell? ⟨gb373, 1, none⟩ = some (.slice A1_1 l1_1.length c1_1)) ∧ (Kd.R (Kd.int .u32) 78 w' w.heap.size (fun k_ => some k_ ≠ (.slice Ao21 t377.length co21 : Value).ownBlock ∧ some k_ ≠ (s_.1 : Value).ownBlock) (.slice Ao20 t376.length co20) t376) ∧ (Kd.R (Kd.int .u32) 78 w' w.heap.size (fun k_ => some k_ ≠ (.slice Ao20 t376.length co20 : Value).ownBlock ∧ some k_ ≠ (s_.1 : Value).ownBlock) (.slice Ao21 t377.length co21) t377) ∧ (Kd.R (Kd.int .u32) 78 w' w.heap.size (fun k_ => some k_ ≠ (.slice Ao20 t376.length co20 : Value).ownBlock ∧ some k_ ≠ (.slice Ao21 t377.length co21 : Value).ownBlock) s_.1 t384) ∧ (w'.heap[gb372]? = some (.cells #[.bool a0_0, .slice A0_1 l0_1.length c0_1] 25 (0, 0))) ∧ (w'.heap[gb373]? = some (.cells #[.bool a1_0, .slice A1_1 l1_1.length c1_1] 25 (0, 0))) ∧ (w'.heap[gb374]? = some (.cells #[.bool false, .slice none 0 0] 25 (0, 0))) ∧ (w'.heap[gb375]? = some (.cells #[.bool false, .slice none 0 0] 25 (0, 0))) ∧ (w'.heap[s_.2.1]? = some (.cells #[.bool false, .slice none 0 0] 25 (0, 0))) ∧ (w'.heap[s_.2.2]? = some (.cells #[.bool false, .slice none 0 0] 25 (0, 0))) ∧ (w.heap.size ≤ s_.2.1) ∧ (w.heap.size ≤ s_.2.1) ∧ (gb372 ≠ s_.2.1) ∧ (s_.2.1 ≠ gb372) ∧ (gb373 ≠ s_.2.1) ∧ (s_.2.1 ≠ gb373) ∧ (gb374 ≠ s_.2.1) ∧ (s_.2.1 ≠ gb374) ∧ (gb375 ≠ s_.2.1) ∧ (s_.2.1 ≠ gb375) ∧ (s_.2.2 ≠ s_.2.1) ∧ (s_.2.1 ≠ s_.2.2) ∧ (w.heap.size ≤ s_.2.2) ∧ (w.heap.size ≤ s_.2.2) ∧ (gb372 ≠ s_.2.2) ∧ (s_.2.2 ≠ gb372) ∧ (gb373 ≠ s_.2.2) ∧ (s_.2.2 ≠ gb373) ∧ (gb374 ≠ s_.2.2) ∧ (s_.2.2 ≠ gb374) ∧ (gb375 ≠ s_.2.2) ∧ (s_.2.2 ≠ gb375) ∧ (Below w.heap.size w w')) ?_ ?_
     rotate_left
     ·
      intro hJ6_11_12
      refine join_ (σ := Value × Value) 4 #[true, true, true, true, true, true, true, true, true, true, true, false, false, false, false] (fun s_ => [(32, .agg #[.bool t383, s_.1]), (36, .agg #[.bool t387, s_.2])]) (fun s_ w' => (w'.cell? ⟨gb372, 0, none⟩ = some (.bool a0_0) ∧ w'.cell? ⟨gb372, 1, none⟩ = some (.slice A0_1 l0_1.length c0_1) ∧ w'.cell? ⟨gb373, 0, none⟩ = some (.bool a1_0) ∧ w'.cell? ⟨gb373, 1, none⟩ = some (.slice A1_1 l1_1.length c1_1)) ∧ (Kd.R (Kd.int .u32) 78 w' w.heap.size (fun k_ => some k_ ≠ (.slice Ao21 t377.length co21 : Value).ownBlock ∧ some k_ ≠ (s_.1 : Value).ownBlock ∧ some k_ ≠ (s_.2 : Value).ownBlock) (.slice Ao20 t376.length co20) t376) ∧ (Kd.R (Kd.int .u32) 78 w' w.heap.size (fun k_ => some k_ ≠ (.slice Ao20 t376.length co20 : Value).ownBlock ∧ some k_ ≠ (s_.1 : Value).ownBlock ∧ some k_ ≠ (s_.2 : Value).ownBlock) (.slice Ao21 t377.length co21) t377) ∧ (Kd.R (Kd.int .u32) 78 w' w.heap.size (fun k_ => some k_ ≠ (.slice Ao20 t376.length co20 : Value).ownBlock ∧ some k_ ≠ (.slice Ao21 t377.length co21 : Value).ownBlock ∧ some k_ ≠ (s_.2 : Value).ownBlock) s_.1 t384) ∧ (Kd.R (Kd.int .u32) 78 w' w.heap.size (fun k_ => some k_ ≠ (.slice Ao20 t376.length co20 : Value).ownBlock ∧ some k_ ≠ (.slice Ao21 t377.length co21 : Value).ownBlock ∧ some k_ ≠ (s_.1 : Value).ownBlock) s_.2 t388) ∧ (w'.heap[gb372]? = some (.cells #[.bool a0_0, .slice A0_1 l0_1.length c0_1] 25 (0, 0))) ∧ (w'.heap[gb373]? = some (.cells #[.bool a1_0, .slice A1_1 l1_1.length c1_1] 25 (0, 0))) ∧ (w'.heap[gb374]? = some (.cells #[.bool false, .slice none 0 0] 25 (0, 0))) ∧ (w'.heap[gb375]? = some (.cells #[.bool false, .slice none 0 0] 25 (0, 0))) ∧ (Below w.heap.size w w')) ?_ ?_
      rotate_left
      ·
       intro hJ6_10
       refine join_ (σ := Value × Nat) 4 #[true, true, true, true, true, true, true, true, true, true, false, true, false, false, false] (fun s_ => [(32, .agg #[.bool t383, s_.1]), (10, .pointer (some ⟨s_.2, 0, none⟩))]) (fun s_ w' => (w'.cell? ⟨gb372, 0, none⟩ = some (.bool a0_0) ∧ w'.cell? ⟨gb372, 1, none⟩ = some (.slice A0_1 l0_1.length c0_1) ∧ w'.cell? ⟨gb373, 0, none⟩ = some (.bool a1_0) ∧ w'.cell? ⟨gb373, 1, none⟩ = some (.slice A1_1 l1_1.length c1_1)) ∧ (Kd.R (Kd.int .u32) 78 w' w.heap.size (fun k_ => some k_ ≠ (.slice Ao21 t377.length co21 : Value).ownBlock ∧ some k_ ≠ (s_.1 : Value).ownBlock) (.slice Ao20 t376.length co20) t376) ∧ (Kd.R (Kd.int .u32) 78 w' w.heap.size (fun k_ => some k_ ≠ (.slice Ao20 t376.length co20 : Value).ownBlock ∧ some k_ ≠ (s_.1 : Value).ownBlock) (.slice Ao21 t377.length co21) t377) ∧ (Kd.R (Kd.int .u32) 78 w' w.heap.size (fun k_ => some k_ ≠ (.slice Ao20 t376.length co20 : Value).ownBlock ∧ some k_ ≠ (.slice Ao21 t377.length co21 : Value).ownBlock) s_.1 t384) ∧ (w'.heap[gb372]? = some (.cells #[.bool a0_0, .slice A0_1 l0_1.length c0_1] 25 (0, 0))) ∧ (w'.heap[gb373]? = some (.cells #[.bool a1_0, .slice A1_1 l1_1.length c1_1] 25 (0, 0))) ∧ (w'.heap[gb374]? = some (.cells #[.bool false, .slice none 0 0] 25 (0, 0))) ∧ (w'.heap[gb375]? = some (.cells #[.bool false, .slice none 0 0] 25 (0, 0))) ∧ (w'.heap[s_.2]? = some (.cells #[.bool false, .slice none 0 0] 25 (0, 0))) ∧ (w.heap.size ≤ s_.2) ∧ (w.heap.size ≤ s_.2) ∧ (gb372 ≠ s_.2) ∧ (s_.2 ≠ gb372) ∧ (gb373 ≠ s_.2) ∧ (s_.2 ≠ gb373) ∧ (gb374 ≠ s_.2) ∧ (s_.2 ≠ gb374) ∧ (gb375 ≠ s_.2) ∧ (s_.2 ≠ gb375) ∧ (Below w.heap.size w w')) ?_ ?_
       rotate_left
       ·
        intro hJ6_11
        refine join_ (σ := Value × Nat) 4 #[true, true, true, true, true, true, true, true, true, true, false, false, true, false, false] (fun s_ => [(32, .agg #[.bool t383, s_.1]), (11, .pointer (some ⟨s_.2, 0, none⟩))]) (fun s_ w' => (w'.cell? ⟨gb372, 0, none⟩ = some (.bool a0_0) ∧ w'.cell? ⟨gb372, 1, none⟩ = some (.slice A0_1 l0_1.length c0_1) ∧ w'.cell? ⟨gb373, 0, none⟩ = some (.bool a1_0) ∧ w'.cell? ⟨gb373, 1, none⟩ = some (.slice A1_1 l1_1.length c1_1)) ∧ (Kd.R (Kd.int .u32) 78 w' w.heap.size (fun k_ => some k_ ≠ (.slice Ao21 t377.length co21 : Value).ownBlock ∧ some k_ ≠ (s_.1 : Value).ownBlock) (.slice Ao20 t376.length co20) t376) ∧ (Kd.R (Kd.int .u32) 78 w' w.heap.size (fun k_ => some k_ ≠ (.slice Ao20 t376.length co20 : Value).ownBlock ∧ some k_ ≠ (s_.1 : Value).ownBlock) (.slice Ao21 t377.length co21) t377) ∧ (Kd.R (Kd.int .u32) 78 w' w.heap.size (fun k_ => some k_ ≠ (.slice Ao20 t376.length co20 : Value).ownBlock ∧ some k_ ≠ (.slice Ao21 t377.length co21 : Value).ownBlock) s_.1 t384) ∧ (w'.heap[gb372]? = some (.cells #[.bool a0_0, .slice A0_1 l0_1.length c0_1] 25 (0, 0))) ∧ (w'.heap[gb373]? = some (.cells #[.bool a1_0, .slice A1_1 l1_1.length c1_1] 25 (0, 0))) ∧ (w'.heap[gb374]? = some (.cells #[.bool false, .slice none 0 0] 25 (0, 0))) ∧ (w'.heap[gb375]? = some (.cells #[.bool false, .slice none 0 0] 25 (0, 0))) ∧ (w'.heap[s_.2]? = some (.cells #[.bool false, .slice none 0 0] 25 (0, 0))) ∧ (w.heap.size ≤ s_.2) ∧ (w.heap.size ≤ s_.2) ∧ (gb372 ≠ s_.2) ∧ (s_.2 ≠ gb372) ∧ (gb373 ≠ s_.2) ∧ (s_.2 ≠ gb373) ∧ (gb374 ≠ s_.2) ∧ (s_.2 ≠ gb374) ∧ (gb375 ≠ s_.2) ∧ (s_.2 ≠ gb375) ∧ (Below w.heap.size w w')) ?_ ?_
        rotate_left
        ·
         intro hJ6_12
         refine join_ (σ := Nat × Nat) 4 #[true, true, true, true, true, true, false, true, true, true, false, true, true, false, false] (fun s_ => [(10, .pointer (some ⟨s_.1, 0, none⟩)), (11, .pointer (some ⟨s_.2, 0, none⟩))]) (fun s_ w' => (w'.cell? ⟨gb372, 0, none⟩ = some (.bool a0_0) ∧ w'.cell? ⟨gb372, 1, none⟩ = some (.slice A0_1 l0_1.length c0_1) ∧ w'.cell? ⟨gb373, 0, none⟩ = some (.bool a1_0) ∧ w'.cell? ⟨gb373, 1, none⟩ = some (.slice A1_1 l1_1.length c1_1)) ∧ (Kd.R (Kd.int .u32) 78 w' w.heap.size (fun k_ => some k_ ≠ (.slice Ao21 t377.length co21 : Value).ownBlock) (.slice Ao20 t376.length co20) t376) ∧ (Kd.R (Kd.int .u32) 78 w' w.heap.size (fun k_ => some k_ ≠ (.slice Ao20 t376.length co20 : Value).ownBlock) (.slice Ao21 t377.length co21) t377) ∧ (w'.heap[gb372]? = some (.cells #[.bool a0_0, .slice A0_1 l0_1.length c0_1] 25 (0, 0))) ∧ (w'.heap[gb373]? = some (.cells #[.bool a1_0, .slice A1_1 l1_1.length c1_1] 25 (0, 0))) ∧ (w'.heap[gb374]? = some (.cells #[.bool false, .slice none 0 0] 25 (0, 0))) ∧ (w'.heap[gb375]? = some (.cells #[.bool false, .slice none 0 0] 25 (0, 0))) ∧ (w'.heap[s_.1]? = some (.cells #[.bool false, .slice none 0 0] 25 (0, 0))) ∧ (w'.heap[s_.2]? = some (.cells #[.bool false, .slice none 0 0] 25 (0, 0))) ∧ (w.heap.size ≤ s_.1) ∧ (w.heap.size ≤ s_.1) ∧ (gb372 ≠ s_.1) ∧ (s_.1 ≠ gb372) ∧ (gb373 ≠ s_.1) ∧ (s_.1 ≠ gb373) ∧ (gb374 ≠ s_.1) ∧ (s_.1 ≠ gb374) ∧ (gb375 ≠ s_.1) ∧ (s_.1 ≠ gb375) ∧ (s_.2 ≠ s_.1) ∧ (s_.1 ≠ s_.2) ∧ (w.heap.size ≤ s_.2) ∧ (w.heap.size ≤ s_.2) ∧ (gb372 ≠ s_.2) ∧ (s_.2 ≠ gb372) ∧ (gb373 ≠ s_.2) ∧ (s_.2 ≠ gb373) ∧ (gb374 ≠ s_.2) ∧ (s_.2 ≠ gb374) ∧ (gb375 ≠ s_.2) ∧ (s_.2 ≠ gb375) ∧ (Below w.heap.size w w')) ?_ ?_
         rotate_left
         ·
          intro hJ11_12
          refine join_ (σ := Value) 5 #[true, true, true, true, true, true, true, true, true, true, false, false, false, false, false] (fun s_ => [(32, .agg #[.bool t383, s_])]) (fun s_ w' => (w'.cell? ⟨gb372, 0, none⟩ = some (.bool a0_0) ∧ w'.cell? ⟨gb372, 1, none⟩ = some (.slice A0_1 l0_1.length c0_1) ∧ w'.cell? ⟨gb373, 0, none⟩ = some (.bool a1_0) ∧ w'.cell? ⟨gb373, 1, none⟩ = some (.slice A1_1 l1_1.length c1_1)) ∧ (Kd.R (Kd.int .u32) 78 w' w.heap.size (fun k_ => some k_ ≠ (.slice Ao21 t377.length co21 : Value).ownBlock ∧ some k_ ≠ (s_ : Value).ownBlock) (.slice Ao20 t376.length co20) t376) ∧ (Kd.R (Kd.int .u32) 78 w' w.heap.size (fun k_ => some k_ ≠ (.slice Ao20 t376.length co20 : Value).ownBlock ∧ some k_ ≠ (s_ : Value).ownBlock) (.slice Ao21 t377.length co21) t377) ∧ (Kd.R (Kd.int .u32) 78 w' w.heap.size (fun k_ => some k_ ≠ (.slice Ao20 t376.length co20 : Value).ownBlock ∧ some k_ ≠ (.slice Ao21 t377.length co21 : Value).ownBlock) s_ t384) ∧ (w'.heap[gb372]? = some (.cells #[.bool a0_0, .slice A0_1 l0_1.length c0_1] 25 (0, 0))) ∧ (w'.heap[gb373]? = some (.cells #[.bool a1_0, .slice A1_1 l1_1.length c1_1] 25 (0, 0))) ∧ (w'.heap[gb374]? = some (.cells #[.bool false, .slice none 0 0] 25 (0, 0))) ∧ (w'.heap[gb375]? = some (.cells #[.bool false, .slice none 0 0] 25 (0, 0))) ∧ (Below w.heap.size w w')) ?_ ?_
          rotate_left
          ·
           intro hJ6
           refine join_ (σ := Nat) 5 #[true, true, true, true, true, true, false, true, true, true, false, true, false, false, false] (fun s_ => [(10, .pointer (some ⟨s_, 0, none⟩))]) (fun s_ w' => (w'.cell? ⟨gb372, 0, none⟩ = some (.bool a0_0) ∧ w'.cell? ⟨gb372, 1, none⟩ = some (.slice A0_1 l0_1.length c0_1) ∧ w'.cell? ⟨gb373, 0, none⟩ = some (.bool a1_0) ∧ w'.cell? ⟨gb373, 1, none⟩ = some (.slice A1_1 l1_1.length c1_1)) ∧ (Kd.R (Kd.int .u32) 78 w' w.heap.size (fun k_ => some k_ ≠ (.slice Ao21 t377.length co21 : Value).ownBlock) (.slice Ao20 t376.length co20) t376) ∧ (Kd.R (Kd.int .u32) 78 w' w.heap.size (fun k_ => some k_ ≠ (.slice Ao20 t376.length co20 : Value).ownBlock) (.slice Ao21 t377.length co21) t377) ∧ (w'.heap[gb372]? = some (.cells #[.bool a0_0, .slice A0_1 l0_1.length c0_1] 25 (0, 0))) ∧ (w'.heap[gb373]? = some (.cells #[.bool a1_0, .slice A1_1 l1_1.length c1_1] 25 (0, 0))) ∧ (w'.heap[gb374]? = some (.cells #[.bool false, .slice none 0 0] 25 (0, 0))) ∧ (w'.heap[gb375]? = some (.cells #[.bool false, .slice none 0 0] 25 (0, 0))) ∧ (w'.heap[s_]? = some (.cells #[.bool false, .slice none 0 0] 25 (0, 0))) ∧ (w.heap.size ≤ s_) ∧ (w.heap.size ≤ s_) ∧ (gb372 ≠ s_) ∧ (s_ ≠ gb372) ∧ (gb373 ≠ s_) ∧ (s_ ≠ gb373) ∧ (gb374 ≠ s_) ∧ (s_ ≠ gb374) ∧ (gb375 ≠ s_) ∧ (s_ ≠ gb375) ∧ (Below w.heap.size w w')) ?_ ?_
           rotate_left
           ·
            intro hJ11
            refine join_ (σ := Nat) 5 #[true, true, true, true, true, true, false, true, true, true, false, false, true, false, false] (fun s_ => [(11, .pointer (some ⟨s_, 0, none⟩))]) (fun s_ w' => (w'.cell? ⟨gb372, 0, none⟩ = some (.bool a0_0) ∧ w'.cell? ⟨gb372, 1, none⟩ = some (.slice A0_1 l0_1.length c0_1) ∧ w'.cell? ⟨gb373, 0, none⟩ = some (.bool a1_0) ∧ w'.cell? ⟨gb373, 1, none⟩ = some (.slice A1_1 l1_1.length c1_1)) ∧ (Kd.R (Kd.int .u32) 78 w' w.heap.size (fun k_ => some k_ ≠ (.slice Ao21 t377.length co21 : Value).ownBlock) (.slice Ao20 t376.length co20) t376) ∧ (Kd.R (Kd.int .u32) 78 w' w.heap.size (fun k_ => some k_ ≠ (.slice Ao20 t376.length co20 : Value).ownBlock) (.slice Ao21 t377.length co21) t377) ∧ (w'.heap[gb372]? = some (.cells #[.bool a0_0, .slice A0_1 l0_1.length c0_1] 25 (0, 0))) ∧ (w'.heap[gb373]? = some (.cells #[.bool a1_0, .slice A1_1 l1_1.length c1_1] 25 (0, 0))) ∧ (w'.heap[gb374]? = some (.cells #[.bool false, .slice none 0 0] 25 (0, 0))) ∧ (w'.heap[gb375]? = some (.cells #[.bool false, .slice none 0 0] 25 (0, 0))) ∧ (w'.heap[s_]? = some (.cells #[.bool false, .slice none 0 0] 25 (0, 0))) ∧ (w.heap.size ≤ s_) ∧ (w.heap.size ≤ s_) ∧ (gb372 ≠ s_) ∧ (s_ ≠ gb372) ∧ (gb373 ≠ s_) ∧ (s_ ≠ gb373) ∧ (gb374 ≠ s_) ∧ (s_ ≠ gb374) ∧ (gb375 ≠ s_) ∧ (s_ ≠ gb375) ∧ (Below w.heap.size w w')) ?_ ?_
            rotate_left
            ·
             intro hJ12
             refine three_ (i := 6) (j := 11) (k := 12) (Ni := some 32) (Nj := some 10) (Nk := some 11) #[true, true, true, true, true, true, true, true, true, true, false, false, false, false, false] #[true, true, true, true, true, true, false, true, true, true, false, true, false, false, false] #[true, true, true, true, true, true, false, true, true, true, false, false, true, false, false] rfl rfl rfl rfl rfl rfl (three_of HT_.out (by kernel_rfl)) (by decide) (by decide) (by decide) (fun K hK => ?_) (fun K hK => ?_) (fun K hK => ?_)
             ·
              skip
              refine goes_ Try.func47 (by kernel_rfl) rfl #[.bool (a0_0 != a1_0), .slice Ao20 t376.length co20] (by rfl) rfl rfl (by (try simp only [List.map_toArray, List.map_cons, List.map_nil]); rfl) ?_
              with_reducible refine (whole_norm.calls k (a0_0 != a1_0) _ _ t376 t383 t384 _ ?side1 ?side2 A5.out).mono ?_
              (case side1 => exact (Kd.R_reads' HO380.out).2.2)
              (case side2 => exact (Kd.R_reads' HO380.out).2.1)
              rintro e w23 ⟨v385, rfl, ho0, hb⟩
              refine ⟨_, rfl, ?_⟩
              have HO386 := am (Kd.R_lower (Kd.R_new' (Kd.R_new' ho0 (Kd.R_lt HO380.out)) (Kd.R_lt HO382.out)) (below_size HB.out))
              replace HO380 := am (Kd.R_elder' HO380.out (Kd.R_base ho0) hb)
              replace HO382 := am (Kd.R_elder' HO382.out (Kd.R_base ho0) hb)
              replace BK372 := am (blk_below BK372.out hb)
              replace BK373 := am (blk_below BK373.out hb)
              replace BK374 := am (blk_below BK374.out hb)
              replace BK375 := am (blk_below BK375.out hb)
              replace HB := am (below_step HB.out hb)
              try clear hb
              try clear ho0
              refine hK.out _ _ ⟨(blk_cell BK372.out 0).trans rfl, (blk_cell BK372.out 1).trans rfl, (blk_cell BK373.out 0).trans rfl, (blk_cell BK373.out 1).trans rfl⟩ (fun hHeld => ?_)
              clear hK K
              refine norm_ (a' := ?_) ?_ ?_
              rotate_left
              ·
               show Act.put _ (some 32) _ = _
               simp only [Act.put, sI_, s0_, s1_, i64_w, i32_w]
               rfl
              exact norm_ (by (simp only [putAll, Act.put, sI_, s0_, s1_]; done)) (hJ6 (v385) _ ⟨hHeld, HO380.out, HO382.out, (by exact Kd.R_mono HO386.out (fun _ hk => ⟨hk.1.2, hk.2⟩)), BK372.out, BK373.out, BK374.out, BK375.out, HB.out⟩)
             ·
              skip
              refine box_step ?hg (N := 10) ?hd (cs := #[.bool false, .slice none 0 0]) (t := 25) ?hr ?_; (case hd => rfl); (case hg => rfl); (case hr => (go_simp; done))
              intro gb391 hg w23 hbox hb
              replace HO380 := am (Kd.R_below HO380.out hb)
              replace HO382 := am (Kd.R_below HO382.out hb)
              have BK391 := am hbox
              have GW391 := am (gel hg HB.out)
              have GE391 := am (gel hg HB.out)
              replace HB := am (below_step HB.out hb)
              have NB372_391 := am (nel hg BK372.out)
              have NB391_372 := am (ner hg BK372.out)
              replace BK372 := am (blk_below BK372.out hb)
              have NB373_391 := am (nel hg BK373.out)
              have NB391_373 := am (ner hg BK373.out)
              replace BK373 := am (blk_below BK373.out hb)
              have NB374_391 := am (nel hg BK374.out)
              have NB391_374 := am (ner hg BK374.out)
              replace BK374 := am (blk_below BK374.out hb)
              have NB375_391 := am (nel hg BK375.out)
              have NB391_375 := am (ner hg BK375.out)
              replace BK375 := am (blk_below BK375.out hb)
              clear hb hbox hg
              refine hK.out _ _ ⟨(blk_cell BK372.out 0).trans rfl, (blk_cell BK372.out 1).trans rfl, (blk_cell BK373.out 0).trans rfl, (blk_cell BK373.out 1).trans rfl⟩ (fun hHeld => ?_)
              clear hK K
              refine norm_ (a' := ?_) ?_ ?_
              rotate_left
              ·
               show Act.put _ (some 10) _ = _
               simp only [Act.put, sI_, s0_, s1_, i64_w, i32_w]
               rfl
              exact norm_ (by (simp only [putAll, Act.put, sI_, s0_, s1_]; done)) (hJ11 (gb391) _ ⟨hHeld, HO380.out, HO382.out, BK372.out, BK373.out, BK374.out, BK375.out, BK391.out, GW391.out, GE391.out, NB372_391.out, NB391_372.out, NB373_391.out, NB391_373.out, NB374_391.out, NB391_374.out, NB375_391.out, NB391_375.out, HB.out⟩)
             ·
              skip
              refine box_step ?hg (N := 11) ?hd (cs := #[.bool false, .slice none 0 0]) (t := 25) ?hr ?_; (case hd => rfl); (case hg => rfl); (case hr => (go_simp; done))
              intro gb392 hg w23 hbox hb
              replace HO380 := am (Kd.R_below HO380.out hb)
              replace HO382 := am (Kd.R_below HO382.out hb)
              have BK392 := am hbox
              have GW392 := am (gel hg HB.out)
              have GE392 := am (gel hg HB.out)
              replace HB := am (below_step HB.out hb)
              have NB372_392 := am (nel hg BK372.out)
              have NB392_372 := am (ner hg BK372.out)
              replace BK372 := am (blk_below BK372.out hb)
              have NB373_392 := am (nel hg BK373.out)
              have NB392_373 := am (ner hg BK373.out)
              replace BK373 := am (blk_below BK373.out hb)
              have NB374_392 := am (nel hg BK374.out)
              have NB392_374 := am (ner hg BK374.out)
              replace BK374 := am (blk_below BK374.out hb)
              have NB375_392 := am (nel hg BK375.out)
              have NB392_375 := am (ner hg BK375.out)
              replace BK375 := am (blk_below BK375.out hb)
              clear hb hbox hg
              refine hK.out _ _ ⟨(blk_cell BK372.out 0).trans rfl, (blk_cell BK372.out 1).trans rfl, (blk_cell BK373.out 0).trans rfl, (blk_cell BK373.out 1).trans rfl⟩ (fun hHeld => ?_)
              clear hK K
              refine norm_ (a' := ?_) ?_ ?_
              rotate_left
              ·
               show Act.put _ (some 11) _ = _
               simp only [Act.put, sI_, s0_, s1_, i64_w, i32_w]
               rfl
              exact norm_ (by (simp only [putAll, Act.put, sI_, s0_, s1_]; done)) (hJ12 (gb392) _ ⟨hHeld, HO380.out, HO382.out, BK372.out, BK373.out, BK374.out, BK375.out, BK392.out, GW392.out, GE392.out, NB372_392.out, NB392_372.out, NB373_392.out, NB392_373.out, NB374_392.out, NB392_374.out, NB375_392.out, NB392_375.out, HB.out⟩)
            ·
             skip
             rintro gb392 w24 ⟨hS_, h0_, h1_, h2_, h3_, h4_, h5_, h6_, h7_, h8_, h9_, h10_, h11_, h12_, h13_, h14_, h15_, h16_, h17_⟩
             have n0_ : Aside0 (Kd.R (Kd.int .u32) 78 w24 w.heap.size (fun k_ => some k_ ≠ (.slice Ao21 t377.length co21 : Value).ownBlock) (.slice Ao20 t376.length co20) t376) := ⟨h0_⟩
             have n1_ : Aside0 (Kd.R (Kd.int .u32) 78 w24 w.heap.size (fun k_ => some k_ ≠ (.slice Ao20 t376.length co20 : Value).ownBlock) (.slice Ao21 t377.length co21) t377) := ⟨h1_⟩
             have n2_ : Aside0 (w24.heap[gb372]? = some (.cells #[.bool a0_0, .slice A0_1 l0_1.length c0_1] 25 (0, 0))) := ⟨h2_⟩
             have n3_ : Aside0 (w24.heap[gb373]? = some (.cells #[.bool a1_0, .slice A1_1 l1_1.length c1_1] 25 (0, 0))) := ⟨h3_⟩
             have n4_ : Aside0 (w24.heap[gb374]? = some (.cells #[.bool false, .slice none 0 0] 25 (0, 0))) := ⟨h4_⟩
             have n5_ : Aside0 (w24.heap[gb375]? = some (.cells #[.bool false, .slice none 0 0] 25 (0, 0))) := ⟨h5_⟩
             have n6_ : Aside0 (w24.heap[gb392]? = some (.cells #[.bool false, .slice none 0 0] 25 (0, 0))) := ⟨h6_⟩
             have n7_ : Aside0 (w.heap.size ≤ gb392) := ⟨h7_⟩
             have n8_ : Aside0 (w.heap.size ≤ gb392) := ⟨h8_⟩
             have n9_ : Aside0 (gb372 ≠ gb392) := ⟨h9_⟩
             have n10_ : Aside0 (gb392 ≠ gb372) := ⟨h10_⟩
             have n11_ : Aside0 (gb373 ≠ gb392) := ⟨h11_⟩
             have n12_ : Aside0 (gb392 ≠ gb373) := ⟨h12_⟩
             have n13_ : Aside0 (gb374 ≠ gb392) := ⟨h13_⟩
             have n14_ : Aside0 (gb392 ≠ gb374) := ⟨h14_⟩
             have n15_ : Aside0 (gb375 ≠ gb392) := ⟨h15_⟩
             have n16_ : Aside0 (gb392 ≠ gb375) := ⟨h16_⟩
             have n17_ : Aside0 (Below w.heap.size w w24) := ⟨h17_⟩
             clear HO380
             clear HO382
             clear BK372
             clear BK373
             clear BK374
             clear BK375
             clear HB
             clear h0_ h1_ h2_ h3_ h4_ h5_ h6_ h7_ h8_ h9_ h10_ h11_ h12_ h13_ h14_ h15_ h16_ h17_
             have HO380 := n0_
             have HO382 := n1_
             have BK372 := n2_
             have BK373 := n3_
             have BK374 := n4_
             have BK375 := n5_
             have BK392 := n6_
             have GW392 := n7_
             have GE392 := n8_
             have NB372_392 := n9_
             have NB392_372 := n10_
             have NB373_392 := n11_
             have NB392_373 := n12_
             have NB374_392 := n13_
             have NB392_374 := n14_
             have NB375_392 := n15_
             have NB392_375 := n16_
             have HB := n17_
             clear n0_ n1_ n2_ n3_ n4_ n5_ n6_ n7_ n8_ n9_ n10_ n11_ n12_ n13_ n14_ n15_ n16_ n17_
             have hHeld : w24.cell? ⟨gb372, 0, none⟩ = some (.bool a0_0) ∧ w24.cell? ⟨gb372, 1, none⟩ = some (.slice A0_1 l0_1.length c0_1) ∧ w24.cell? ⟨gb373, 0, none⟩ = some (.bool a1_0) ∧ w24.cell? ⟨gb373, 1, none⟩ = some (.slice A1_1 l1_1.length c1_1) := hS_
             refine norm_ (a' := ?_) ?_ ?_
             rotate_left
             ·
              simp only [putAll, Act.put, sI_, s0_, s1_]
              rfl
             refine two_ (i := 6) (j := 11) (Ni := some 32) (Nj := some 10) #[true, true, true, true, true, true, true, true, true, true, false, false, true, false, false] #[true, true, true, true, true, true, false, true, true, true, false, true, true, false, false] rfl rfl rfl rfl (two_of HT_.out (by kernel_rfl)) (by decide) (by decide) (fun K hK => ?_) (fun K hK => ?_)
             ·
              skip
              refine goes_ Try.func47 (by kernel_rfl) rfl #[.bool (a0_0 != a1_0), .slice Ao20 t376.length co20] (by rfl) rfl rfl (by (try simp only [List.map_toArray, List.map_cons, List.map_nil]); rfl) ?_
              with_reducible refine (whole_norm.calls k (a0_0 != a1_0) _ _ t376 t383 t384 _ ?side1 ?side2 A5.out).mono ?_
              (case side1 => exact (Kd.R_reads' HO380.out).2.2)
              (case side2 => exact (Kd.R_reads' HO380.out).2.1)
              rintro e w25 ⟨v385, rfl, ho0, hb⟩
              refine ⟨_, rfl, ?_⟩
              have HO386 := am (Kd.R_lower (Kd.R_new' (Kd.R_new' ho0 (Kd.R_lt HO380.out)) (Kd.R_lt HO382.out)) (below_size HB.out))
              replace HO380 := am (Kd.R_elder' HO380.out (Kd.R_base ho0) hb)
              replace HO382 := am (Kd.R_elder' HO382.out (Kd.R_base ho0) hb)
              replace BK372 := am (blk_below BK372.out hb)
              replace BK373 := am (blk_below BK373.out hb)
              replace BK374 := am (blk_below BK374.out hb)
              replace BK375 := am (blk_below BK375.out hb)
              replace BK392 := am (blk_below BK392.out hb)
              replace HB := am (below_step HB.out hb)
              try clear hb
              try clear ho0
              refine hK.out _ _ ⟨(blk_cell BK372.out 0).trans rfl, (blk_cell BK372.out 1).trans rfl, (blk_cell BK373.out 0).trans rfl, (blk_cell BK373.out 1).trans rfl⟩ (fun hHeld => ?_)
              clear hK K
              refine norm_ (a' := ?_) ?_ ?_
              rotate_left
              ·
               show Act.put _ (some 32) _ = _
               simp only [Act.put, sI_, s0_, s1_, i64_w, i32_w]
               rfl
              exact norm_ (by (simp only [putAll, Act.put, sI_, s0_, s1_]; done)) (hJ6_12 (v385, gb392) _ ⟨hHeld, HO380.out, HO382.out, (by exact Kd.R_mono HO386.out (fun _ hk => ⟨hk.1.2, hk.2⟩)), BK372.out, BK373.out, BK374.out, BK375.out, BK392.out, GW392.out, GE392.out, NB372_392.out, NB392_372.out, NB373_392.out, NB392_373.out, NB374_392.out, NB392_374.out, NB375_392.out, NB392_375.out, HB.out⟩)
             ·
              skip
              refine box_step ?hg (N := 10) ?hd (cs := #[.bool false, .slice none 0 0]) (t := 25) ?hr ?_; (case hd => rfl); (case hg => rfl); (case hr => (go_simp; done))
              intro gb391 hg w25 hbox hb
              replace HO380 := am (Kd.R_below HO380.out hb)
              replace HO382 := am (Kd.R_below HO382.out hb)
              have BK391 := am hbox
              have GW391 := am (gel hg HB.out)
              have GE391 := am (gel hg HB.out)
              replace HB := am (below_step HB.out hb)
              have NB372_391 := am (nel hg BK372.out)
              have NB391_372 := am (ner hg BK372.out)
              replace BK372 := am (blk_below BK372.out hb)
              have NB373_391 := am (nel hg BK373.out)
              have NB391_373 := am (ner hg BK373.out)
              replace BK373 := am (blk_below BK373.out hb)
              have NB374_391 := am (nel hg BK374.out)
              have NB391_374 := am (ner hg BK374.out)
              replace BK374 := am (blk_below BK374.out hb)
              have NB375_391 := am (nel hg BK375.out)
              have NB391_375 := am (ner hg BK375.out)
              replace BK375 := am (blk_below BK375.out hb)
              have NB392_391 := am (nel hg BK392.out)
              have NB391_392 := am (ner hg BK392.out)
              replace BK392 := am (blk_below BK392.out hb)
              clear hb hbox hg
              refine hK.out _ _ ⟨(blk_cell BK372.out 0).trans rfl, (blk_cell BK372.out 1).trans rfl, (blk_cell BK373.out 0).trans rfl, (blk_cell BK373.out 1).trans rfl⟩ (fun hHeld => ?_)
              clear hK K
              refine norm_ (a' := ?_) ?_ ?_
              rotate_left
              ·
               show Act.put _ (some 10) _ = _
               simp only [Act.put, sI_, s0_, s1_, i64_w, i32_w]
               rfl
              exact norm_ (by (simp only [putAll, Act.put, sI_, s0_, s1_]; done)) (hJ11_12 (gb391, gb392) _ ⟨hHeld, HO380.out, HO382.out, BK372.out, BK373.out, BK374.out, BK375.out, BK391.out, BK392.out, GW391.out, GE391.out, NB372_391.out, NB391_372.out, NB373_391.out, NB391_373.out, NB374_391.out, NB391_374.out, NB375_391.out, NB391_375.out, NB392_391.out, NB391_392.out, GW392.out, GE392.out, NB372_392.out, NB392_372.out, NB373_392.out, NB392_373.out, NB374_392.out, NB392_374.out, NB375_392.out, NB392_375.out, HB.out⟩)
           ·
            skip
            rintro gb391 w24 ⟨hS_, h0_, h1_, h2_, h3_, h4_, h5_, h6_, h7_, h8_, h9_, h10_, h11_, h12_, h13_, h14_, h15_, h16_, h17_⟩
            have n0_ : Aside0 (Kd.R (Kd.int .u32) 78 w24 w.heap.size (fun k_ => some k_ ≠ (.slice Ao21 t377.length co21 : Value).ownBlock) (.slice Ao20 t376.length co20) t376) := ⟨h0_⟩
            have n1_ : Aside0 (Kd.R (Kd.int .u32) 78 w24 w.heap.size (fun k_ => some k_ ≠ (.slice Ao20 t376.length co20 : Value).ownBlock) (.slice Ao21 t377.length co21) t377) := ⟨h1_⟩
            have n2_ : Aside0 (w24.heap[gb372]? = some (.cells #[.bool a0_0, .slice A0_1 l0_1.length c0_1] 25 (0, 0))) := ⟨h2_⟩
            have n3_ : Aside0 (w24.heap[gb373]? = some (.cells #[.bool a1_0, .slice A1_1 l1_1.length c1_1] 25 (0, 0))) := ⟨h3_⟩
            have n4_ : Aside0 (w24.heap[gb374]? = some (.cells #[.bool false, .slice none 0 0] 25 (0, 0))) := ⟨h4_⟩
            have n5_ : Aside0 (w24.heap[gb375]? = some (.cells #[.bool false, .slice none 0 0] 25 (0, 0))) := ⟨h5_⟩
            have n6_ : Aside0 (w24.heap[gb391]? = some (.cells #[.bool false, .slice none 0 0] 25 (0, 0))) := ⟨h6_⟩
            have n7_ : Aside0 (w.heap.size ≤ gb391) := ⟨h7_⟩
            have n8_ : Aside0 (w.heap.size ≤ gb391) := ⟨h8_⟩
            have n9_ : Aside0 (gb372 ≠ gb391) := ⟨h9_⟩
            have n10_ : Aside0 (gb391 ≠ gb372) := ⟨h10_⟩
            have n11_ : Aside0 (gb373 ≠ gb391) := ⟨h11_⟩
            have n12_ : Aside0 (gb391 ≠ gb373) := ⟨h12_⟩
            have n13_ : Aside0 (gb374 ≠ gb391) := ⟨h13_⟩
            have n14_ : Aside0 (gb391 ≠ gb374) := ⟨h14_⟩
            have n15_ : Aside0 (gb375 ≠ gb391) := ⟨h15_⟩
            have n16_ : Aside0 (gb391 ≠ gb375) := ⟨h16_⟩
            have n17_ : Aside0 (Below w.heap.size w w24) := ⟨h17_⟩
            clear HO380
            clear HO382
            clear BK372
            clear BK373
            clear BK374
            clear BK375
            clear HB
            clear h0_ h1_ h2_ h3_ h4_ h5_ h6_ h7_ h8_ h9_ h10_ h11_ h12_ h13_ h14_ h15_ h16_ h17_
            have HO380 := n0_
            have HO382 := n1_
            have BK372 := n2_
            have BK373 := n3_
            have BK374 := n4_
            have BK375 := n5_
            have BK391 := n6_
            have GW391 := n7_
            have GE391 := n8_
            have NB372_391 := n9_
            have NB391_372 := n10_
            have NB373_391 := n11_
            have NB391_373 := n12_
            have NB374_391 := n13_
            have NB391_374 := n14_
            have NB375_391 := n15_
            have NB391_375 := n16_
            have HB := n17_
            clear n0_ n1_ n2_ n3_ n4_ n5_ n6_ n7_ n8_ n9_ n10_ n11_ n12_ n13_ n14_ n15_ n16_ n17_
            have hHeld : w24.cell? ⟨gb372, 0, none⟩ = some (.bool a0_0) ∧ w24.cell? ⟨gb372, 1, none⟩ = some (.slice A0_1 l0_1.length c0_1) ∧ w24.cell? ⟨gb373, 0, none⟩ = some (.bool a1_0) ∧ w24.cell? ⟨gb373, 1, none⟩ = some (.slice A1_1 l1_1.length c1_1) := hS_
            refine norm_ (a' := ?_) ?_ ?_
            rotate_left
            ·
             simp only [putAll, Act.put, sI_, s0_, s1_]
             rfl
            refine two_ (i := 6) (j := 12) (Ni := some 32) (Nj := some 11) #[true, true, true, true, true, true, true, true, true, true, false, true, false, false, false] #[true, true, true, true, true, true, false, true, true, true, false, true, true, false, false] rfl rfl rfl rfl (two_of HT_.out (by kernel_rfl)) (by decide) (by decide) (fun K hK => ?_) (fun K hK => ?_)
            ·
             skip
             refine goes_ Try.func47 (by kernel_rfl) rfl #[.bool (a0_0 != a1_0), .slice Ao20 t376.length co20] (by rfl) rfl rfl (by (try simp only [List.map_toArray, List.map_cons, List.map_nil]); rfl) ?_
             with_reducible refine (whole_norm.calls k (a0_0 != a1_0) _ _ t376 t383 t384 _ ?side1 ?side2 A5.out).mono ?_
             (case side1 => exact (Kd.R_reads' HO380.out).2.2)
             (case side2 => exact (Kd.R_reads' HO380.out).2.1)
             rintro e w25 ⟨v385, rfl, ho0, hb⟩
             refine ⟨_, rfl, ?_⟩
             have HO386 := am (Kd.R_lower (Kd.R_new' (Kd.R_new' ho0 (Kd.R_lt HO380.out)) (Kd.R_lt HO382.out)) (below_size HB.out))
             replace HO380 := am (Kd.R_elder' HO380.out (Kd.R_base ho0) hb)
             replace HO382 := am (Kd.R_elder' HO382.out (Kd.R_base ho0) hb)
             replace BK372 := am (blk_below BK372.out hb)
             replace BK373 := am (blk_below BK373.out hb)
             replace BK374 := am (blk_below BK374.out hb)
             replace BK375 := am (blk_below BK375.out hb)
             replace BK391 := am (blk_below BK391.out hb)
             replace HB := am (below_step HB.out hb)
             try clear hb
             try clear ho0
             refine hK.out _ _ ⟨(blk_cell BK372.out 0).trans rfl, (blk_cell BK372.out 1).trans rfl, (blk_cell BK373.out 0).trans rfl, (blk_cell BK373.out 1).trans rfl⟩ (fun hHeld => ?_)
             clear hK K
             refine norm_ (a' := ?_) ?_ ?_
             rotate_left
             ·
              show Act.put _ (some 32) _ = _
              simp only [Act.put, sI_, s0_, s1_, i64_w, i32_w]
              rfl
             exact norm_ (by (simp only [putAll, Act.put, sI_, s0_, s1_]; done)) (hJ6_11 (v385, gb391) _ ⟨hHeld, HO380.out, HO382.out, (by exact Kd.R_mono HO386.out (fun _ hk => ⟨hk.1.2, hk.2⟩)), BK372.out, BK373.out, BK374.out, BK375.out, BK391.out, GW391.out, GE391.out, NB372_391.out, NB391_372.out, NB373_391.out, NB391_373.out, NB374_391.out, NB391_374.out, NB375_391.out, NB391_375.out, HB.out⟩)
            ·
             skip
             refine box_step ?hg (N := 11) ?hd (cs := #[.bool false, .slice none 0 0]) (t := 25) ?hr ?_; (case hd => rfl); (case hg => rfl); (case hr => (go_simp; done))
             intro gb392 hg w25 hbox hb
             replace HO380 := am (Kd.R_below HO380.out hb)
             replace HO382 := am (Kd.R_below HO382.out hb)
             have BK392 := am hbox
             have GW392 := am (gel hg HB.out)
             have GE392 := am (gel hg HB.out)
             replace HB := am (below_step HB.out hb)
             have NB372_392 := am (nel hg BK372.out)
             have NB392_372 := am (ner hg BK372.out)
             replace BK372 := am (blk_below BK372.out hb)
             have NB373_392 := am (nel hg BK373.out)
             have NB392_373 := am (ner hg BK373.out)
             replace BK373 := am (blk_below BK373.out hb)
             have NB374_392 := am (nel hg BK374.out)
             have NB392_374 := am (ner hg BK374.out)
             replace BK374 := am (blk_below BK374.out hb)
             have NB375_392 := am (nel hg BK375.out)
             have NB392_375 := am (ner hg BK375.out)
             replace BK375 := am (blk_below BK375.out hb)
             have NB391_392 := am (nel hg BK391.out)
             have NB392_391 := am (ner hg BK391.out)
             replace BK391 := am (blk_below BK391.out hb)
             clear hb hbox hg
             refine hK.out _ _ ⟨(blk_cell BK372.out 0).trans rfl, (blk_cell BK372.out 1).trans rfl, (blk_cell BK373.out 0).trans rfl, (blk_cell BK373.out 1).trans rfl⟩ (fun hHeld => ?_)
             clear hK K
             refine norm_ (a' := ?_) ?_ ?_
             rotate_left
             ·
              show Act.put _ (some 11) _ = _
              simp only [Act.put, sI_, s0_, s1_, i64_w, i32_w]
              rfl
             exact norm_ (by (simp only [putAll, Act.put, sI_, s0_, s1_]; done)) (hJ11_12 (gb391, gb392) _ ⟨hHeld, HO380.out, HO382.out, BK372.out, BK373.out, BK374.out, BK375.out, BK391.out, BK392.out, GW391.out, GE391.out, NB372_391.out, NB391_372.out, NB373_391.out, NB391_373.out, NB374_391.out, NB391_374.out, NB375_391.out, NB391_375.out, NB392_391.out, NB391_392.out, GW392.out, GE392.out, NB372_392.out, NB392_372.out, NB373_392.out, NB392_373.out, NB374_392.out, NB392_374.out, NB375_392.out, NB392_375.out, HB.out⟩)
          ·
           skip
           rintro v385 w24 ⟨hS_, h0_, h1_, h2_, h3_, h4_, h5_, h6_, h7_⟩
           have n0_ : Aside0 (Kd.R (Kd.int .u32) 78 w24 w.heap.size (fun k_ => some k_ ≠ (.slice Ao21 t377.length co21 : Value).ownBlock ∧ some k_ ≠ (v385 : Value).ownBlock) (.slice Ao20 t376.length co20) t376) := ⟨h0_⟩
           have n1_ : Aside0 (Kd.R (Kd.int .u32) 78 w24 w.heap.size (fun k_ => some k_ ≠ (.slice Ao20 t376.length co20 : Value).ownBlock ∧ some k_ ≠ (v385 : Value).ownBlock) (.slice Ao21 t377.length co21) t377) := ⟨h1_⟩
           have n2_ : Aside0 (Kd.R (Kd.int .u32) 78 w24 w.heap.size (fun k_ => some k_ ≠ (.slice Ao20 t376.length co20 : Value).ownBlock ∧ some k_ ≠ (.slice Ao21 t377.length co21 : Value).ownBlock) v385 t384) := ⟨h2_⟩
           have n3_ : Aside0 (w24.heap[gb372]? = some (.cells #[.bool a0_0, .slice A0_1 l0_1.length c0_1] 25 (0, 0))) := ⟨h3_⟩
           have n4_ : Aside0 (w24.heap[gb373]? = some (.cells #[.bool a1_0, .slice A1_1 l1_1.length c1_1] 25 (0, 0))) := ⟨h4_⟩
           have n5_ : Aside0 (w24.heap[gb374]? = some (.cells #[.bool false, .slice none 0 0] 25 (0, 0))) := ⟨h5_⟩
           have n6_ : Aside0 (w24.heap[gb375]? = some (.cells #[.bool false, .slice none 0 0] 25 (0, 0))) := ⟨h6_⟩
           have n7_ : Aside0 (Below w.heap.size w w24) := ⟨h7_⟩
           clear HO380
           clear HO382
           clear BK372
           clear BK373
           clear BK374
           clear BK375
           clear HB
           clear h0_ h1_ h2_ h3_ h4_ h5_ h6_ h7_
           have HO380 := n0_
           have HO382 := n1_
           have HO386 := n2_
           have BK372 := n3_
           have BK373 := n4_
           have BK374 := n5_
           have BK375 := n6_
           have HB := n7_
           clear n0_ n1_ n2_ n3_ n4_ n5_ n6_ n7_
           have hHeld : w24.cell? ⟨gb372, 0, none⟩ = some (.bool a0_0) ∧ w24.cell? ⟨gb372, 1, none⟩ = some (.slice A0_1 l0_1.length c0_1) ∧ w24.cell? ⟨gb373, 0, none⟩ = some (.bool a1_0) ∧ w24.cell? ⟨gb373, 1, none⟩ = some (.slice A1_1 l1_1.length c1_1) := hS_
           refine norm_ (a' := ?_) ?_ ?_
           rotate_left
           ·
            simp only [putAll, Act.put, sI_, s0_, s1_]
            rfl
           refine three_ (i := 10) (j := 11) (k := 12) (Ni := some 36) (Nj := some 10) (Nk := some 11) #[true, true, true, true, true, true, true, true, true, true, true, false, false, false, false] #[true, true, true, true, true, true, true, true, true, true, false, true, false, false, false] #[true, true, true, true, true, true, true, true, true, true, false, false, true, false, false] rfl rfl rfl rfl rfl rfl (three_of HT_.out (by kernel_rfl)) (by decide) (by decide) (by decide) (fun K hK => ?_) (fun K hK => ?_) (fun K hK => ?_)
           ·
            skip
            refine goes_ Try.func47 (by kernel_rfl) rfl #[.bool a0_0, .slice Ao21 t377.length co21] (by rfl) rfl rfl (by (try simp only [List.map_toArray, List.map_cons, List.map_nil]); rfl) ?_
            with_reducible refine (whole_norm.calls k a0_0 _ _ t377 t387 t388 _ ?side1 ?side2 A6.out).mono ?_
            (case side1 => exact (Kd.R_reads' HO382.out).2.2)
            (case side2 => exact (Kd.R_reads' HO382.out).2.1)
            rintro e w25 ⟨v389, rfl, ho0, hb⟩
            refine ⟨_, rfl, ?_⟩
            have HO390 := am (Kd.R_lower (Kd.R_new' (Kd.R_new' (Kd.R_new' ho0 (Kd.R_lt HO380.out)) (Kd.R_lt HO382.out)) (Kd.R_lt HO386.out)) (below_size HB.out))
            replace HO380 := am (Kd.R_elder' HO380.out (Kd.R_base ho0) hb)
            replace HO382 := am (Kd.R_elder' HO382.out (Kd.R_base ho0) hb)
            replace HO386 := am (Kd.R_elder' HO386.out (Kd.R_base ho0) hb)
            replace BK372 := am (blk_below BK372.out hb)
            replace BK373 := am (blk_below BK373.out hb)
            replace BK374 := am (blk_below BK374.out hb)
            replace BK375 := am (blk_below BK375.out hb)
            replace HB := am (below_step HB.out hb)
            try clear hb
            try clear ho0
            refine hK.out _ _ ⟨(blk_cell BK372.out 0).trans rfl, (blk_cell BK372.out 1).trans rfl, (blk_cell BK373.out 0).trans rfl, (blk_cell BK373.out 1).trans rfl⟩ (fun hHeld => ?_)
            clear hK K
            refine norm_ (a' := ?_) ?_ ?_
            rotate_left
            ·
             show Act.put _ (some 36) _ = _
             simp only [Act.put, sI_, s0_, s1_, i64_w, i32_w]
             rfl
            exact norm_ (by (simp only [putAll, Act.put, sI_, s0_, s1_]; done)) (hJ6_10 (v385, v389) _ ⟨hHeld, (by exact Kd.R_mono HO380.out (fun _ hk => ⟨hk.1.1, ⟨hk.1.2, hk.2⟩⟩)), (by exact Kd.R_mono HO382.out (fun _ hk => ⟨hk.1.1, ⟨hk.1.2, hk.2⟩⟩)), (by exact Kd.R_mono HO386.out (fun _ hk => ⟨hk.1.1, ⟨hk.1.2, hk.2⟩⟩)), (by exact Kd.R_mono HO390.out (fun _ hk => ⟨hk.1.1.2, ⟨hk.1.2, hk.2⟩⟩)), BK372.out, BK373.out, BK374.out, BK375.out, HB.out⟩)
           ·
            skip
            refine box_step ?hg (N := 10) ?hd (cs := #[.bool false, .slice none 0 0]) (t := 25) ?hr ?_; (case hd => rfl); (case hg => rfl); (case hr => (go_simp; done))
            intro gb391 hg w25 hbox hb
            replace HO380 := am (Kd.R_below HO380.out hb)
            replace HO382 := am (Kd.R_below HO382.out hb)
            replace HO386 := am (Kd.R_below HO386.out hb)
            have BK391 := am hbox
            have GW391 := am (gel hg HB.out)
            have GE391 := am (gel hg HB.out)
            replace HB := am (below_step HB.out hb)
            have NB372_391 := am (nel hg BK372.out)
            have NB391_372 := am (ner hg BK372.out)
            replace BK372 := am (blk_below BK372.out hb)
            have NB373_391 := am (nel hg BK373.out)
            have NB391_373 := am (ner hg BK373.out)
            replace BK373 := am (blk_below BK373.out hb)
            have NB374_391 := am (nel hg BK374.out)
            have NB391_374 := am (ner hg BK374.out)
            replace BK374 := am (blk_below BK374.out hb)
            have NB375_391 := am (nel hg BK375.out)
            have NB391_375 := am (ner hg BK375.out)
            replace BK375 := am (blk_below BK375.out hb)
            clear hb hbox hg
            refine hK.out _ _ ⟨(blk_cell BK372.out 0).trans rfl, (blk_cell BK372.out 1).trans rfl, (blk_cell BK373.out 0).trans rfl, (blk_cell BK373.out 1).trans rfl⟩ (fun hHeld => ?_)
            clear hK K
            refine norm_ (a' := ?_) ?_ ?_
            rotate_left
            ·
             show Act.put _ (some 10) _ = _
             simp only [Act.put, sI_, s0_, s1_, i64_w, i32_w]
             rfl
            exact norm_ (by (simp only [putAll, Act.put, sI_, s0_, s1_]; done)) (hJ6_11 (v385, gb391) _ ⟨hHeld, HO380.out, HO382.out, HO386.out, BK372.out, BK373.out, BK374.out, BK375.out, BK391.out, GW391.out, GE391.out, NB372_391.out, NB391_372.out, NB373_391.out, NB391_373.out, NB374_391.out, NB391_374.out, NB375_391.out, NB391_375.out, HB.out⟩)
           ·
            skip
            refine box_step ?hg (N := 11) ?hd (cs := #[.bool false, .slice none 0 0]) (t := 25) ?hr ?_; (case hd => rfl); (case hg => rfl); (case hr => (go_simp; done))
            intro gb392 hg w25 hbox hb
            replace HO380 := am (Kd.R_below HO380.out hb)
            replace HO382 := am (Kd.R_below HO382.out hb)
            replace HO386 := am (Kd.R_below HO386.out hb)
            have BK392 := am hbox
            have GW392 := am (gel hg HB.out)
            have GE392 := am (gel hg HB.out)
            replace HB := am (below_step HB.out hb)
            have NB372_392 := am (nel hg BK372.out)
            have NB392_372 := am (ner hg BK372.out)
            replace BK372 := am (blk_below BK372.out hb)
            have NB373_392 := am (nel hg BK373.out)
            have NB392_373 := am (ner hg BK373.out)
            replace BK373 := am (blk_below BK373.out hb)
            have NB374_392 := am (nel hg BK374.out)
            have NB392_374 := am (ner hg BK374.out)
            replace BK374 := am (blk_below BK374.out hb)
            have NB375_392 := am (nel hg BK375.out)
            have NB392_375 := am (ner hg BK375.out)
            replace BK375 := am (blk_below BK375.out hb)
            clear hb hbox hg
            refine hK.out _ _ ⟨(blk_cell BK372.out 0).trans rfl, (blk_cell BK372.out 1).trans rfl, (blk_cell BK373.out 0).trans rfl, (blk_cell BK373.out 1).trans rfl⟩ (fun hHeld => ?_)
            clear hK K
            refine norm_ (a' := ?_) ?_ ?_
            rotate_left
            ·
             show Act.put _ (some 11) _ = _
             simp only [Act.put, sI_, s0_, s1_, i64_w, i32_w]
             rfl
            exact norm_ (by (simp only [putAll, Act.put, sI_, s0_, s1_]; done)) (hJ6_12 (v385, gb392) _ ⟨hHeld, HO380.out, HO382.out, HO386.out, BK372.out, BK373.out, BK374.out, BK375.out, BK392.out, GW392.out, GE392.out, NB372_392.out, NB392_372.out, NB373_392.out, NB392_373.out, NB374_392.out, NB392_374.out, NB375_392.out, NB392_375.out, HB.out⟩)
         ·
          skip
          rintro ⟨gb391, gb392⟩ w25 ⟨hS_, h0_, h1_, h2_, h3_, h4_, h5_, h6_, h7_, h8_, h9_, h10_, h11_, h12_, h13_, h14_, h15_, h16_, h17_, h18_, h19_, h20_, h21_, h22_, h23_, h24_, h25_, h26_, h27_, h28_, h29_, h30_⟩
          have n0_ : Aside0 (Kd.R (Kd.int .u32) 78 w25 w.heap.size (fun k_ => some k_ ≠ (.slice Ao21 t377.length co21 : Value).ownBlock) (.slice Ao20 t376.length co20) t376) := ⟨h0_⟩
          have n1_ : Aside0 (Kd.R (Kd.int .u32) 78 w25 w.heap.size (fun k_ => some k_ ≠ (.slice Ao20 t376.length co20 : Value).ownBlock) (.slice Ao21 t377.length co21) t377) := ⟨h1_⟩
          have n2_ : Aside0 (w25.heap[gb372]? = some (.cells #[.bool a0_0, .slice A0_1 l0_1.length c0_1] 25 (0, 0))) := ⟨h2_⟩
          have n3_ : Aside0 (w25.heap[gb373]? = some (.cells #[.bool a1_0, .slice A1_1 l1_1.length c1_1] 25 (0, 0))) := ⟨h3_⟩
          have n4_ : Aside0 (w25.heap[gb374]? = some (.cells #[.bool false, .slice none 0 0] 25 (0, 0))) := ⟨h4_⟩
          have n5_ : Aside0 (w25.heap[gb375]? = some (.cells #[.bool false, .slice none 0 0] 25 (0, 0))) := ⟨h5_⟩
          have n6_ : Aside0 (w25.heap[gb391]? = some (.cells #[.bool false, .slice none 0 0] 25 (0, 0))) := ⟨h6_⟩
          have n7_ : Aside0 (w25.heap[gb392]? = some (.cells #[.bool false, .slice none 0 0] 25 (0, 0))) := ⟨h7_⟩
          have n8_ : Aside0 (w.heap.size ≤ gb391) := ⟨h8_⟩
          have n9_ : Aside0 (w.heap.size ≤ gb391) := ⟨h9_⟩
          have n10_ : Aside0 (gb372 ≠ gb391) := ⟨h10_⟩
          have n11_ : Aside0 (gb391 ≠ gb372) := ⟨h11_⟩
          have n12_ : Aside0 (gb373 ≠ gb391) := ⟨h12_⟩
          have n13_ : Aside0 (gb391 ≠ gb373) := ⟨h13_⟩
          have n14_ : Aside0 (gb374 ≠ gb391) := ⟨h14_⟩
          have n15_ : Aside0 (gb391 ≠ gb374) := ⟨h15_⟩
          have n16_ : Aside0 (gb375 ≠ gb391) := ⟨h16_⟩
          have n17_ : Aside0 (gb391 ≠ gb375) := ⟨h17_⟩
          have n18_ : Aside0 (gb392 ≠ gb391) := ⟨h18_⟩
          have n19_ : Aside0 (gb391 ≠ gb392) := ⟨h19_⟩
          have n20_ : Aside0 (w.heap.size ≤ gb392) := ⟨h20_⟩
          have n21_ : Aside0 (w.heap.size ≤ gb392) := ⟨h21_⟩
          have n22_ : Aside0 (gb372 ≠ gb392) := ⟨h22_⟩
          have n23_ : Aside0 (gb392 ≠ gb372) := ⟨h23_⟩
          have n24_ : Aside0 (gb373 ≠ gb392) := ⟨h24_⟩
          have n25_ : Aside0 (gb392 ≠ gb373) := ⟨h25_⟩
          have n26_ : Aside0 (gb374 ≠ gb392) := ⟨h26_⟩
          have n27_ : Aside0 (gb392 ≠ gb374) := ⟨h27_⟩
          have n28_ : Aside0 (gb375 ≠ gb392) := ⟨h28_⟩
          have n29_ : Aside0 (gb392 ≠ gb375) := ⟨h29_⟩
          have n30_ : Aside0 (Below w.heap.size w w25) := ⟨h30_⟩
          clear HO380
          clear HO382
          clear BK372
          clear BK373
          clear BK374
          clear BK375
          clear HB
          clear h0_ h1_ h2_ h3_ h4_ h5_ h6_ h7_ h8_ h9_ h10_ h11_ h12_ h13_ h14_ h15_ h16_ h17_ h18_ h19_ h20_ h21_ h22_ h23_ h24_ h25_ h26_ h27_ h28_ h29_ h30_
          have HO380 := n0_
          have HO382 := n1_
          have BK372 := n2_
          have BK373 := n3_
          have BK374 := n4_
          have BK375 := n5_
          have BK391 := n6_
          have BK392 := n7_
          have GW391 := n8_
          have GE391 := n9_
          have NB372_391 := n10_
          have NB391_372 := n11_
          have NB373_391 := n12_
          have NB391_373 := n13_
          have NB374_391 := n14_
          have NB391_374 := n15_
          have NB375_391 := n16_
          have NB391_375 := n17_
          have NB392_391 := n18_
          have NB391_392 := n19_
          have GW392 := n20_
          have GE392 := n21_
          have NB372_392 := n22_
          have NB392_372 := n23_
          have NB373_392 := n24_
          have NB392_373 := n25_
          have NB374_392 := n26_
          have NB392_374 := n27_
          have NB375_392 := n28_
          have NB392_375 := n29_
          have HB := n30_
          clear n0_ n1_ n2_ n3_ n4_ n5_ n6_ n7_ n8_ n9_ n10_ n11_ n12_ n13_ n14_ n15_ n16_ n17_ n18_ n19_ n20_ n21_ n22_ n23_ n24_ n25_ n26_ n27_ n28_ n29_ n30_
          have hHeld : w25.cell? ⟨gb372, 0, none⟩ = some (.bool a0_0) ∧ w25.cell? ⟨gb372, 1, none⟩ = some (.slice A0_1 l0_1.length c0_1) ∧ w25.cell? ⟨gb373, 0, none⟩ = some (.bool a1_0) ∧ w25.cell? ⟨gb373, 1, none⟩ = some (.slice A1_1 l1_1.length c1_1) := hS_
          refine norm_ (a' := ?_) ?_ ?_
          rotate_left
          ·
           simp only [putAll, Act.put, sI_, s0_, s1_]
           rfl
          refine one_ (i := 6) (N := some 32) #[true, true, true, true, true, true, true, true, true, true, false, true, true, false, false] rfl rfl (one_of HT_.out (by kernel_rfl)) (by decide) (fun K hK => ?_)
          refine goes_ Try.func47 (by kernel_rfl) rfl #[.bool (a0_0 != a1_0), .slice Ao20 t376.length co20] (by rfl) rfl rfl (by (try simp only [List.map_toArray, List.map_cons, List.map_nil]); rfl) ?_
          with_reducible refine (whole_norm.calls k (a0_0 != a1_0) _ _ t376 t383 t384 _ ?side1 ?side2 A5.out).mono ?_
          (case side1 => exact (Kd.R_reads' HO380.out).2.2)
          (case side2 => exact (Kd.R_reads' HO380.out).2.1)
          rintro e w26 ⟨v385, rfl, ho0, hb⟩
          refine ⟨_, rfl, ?_⟩
          have HO386 := am (Kd.R_lower (Kd.R_new' (Kd.R_new' ho0 (Kd.R_lt HO380.out)) (Kd.R_lt HO382.out)) (below_size HB.out))
          replace HO380 := am (Kd.R_elder' HO380.out (Kd.R_base ho0) hb)
          replace HO382 := am (Kd.R_elder' HO382.out (Kd.R_base ho0) hb)
          replace BK372 := am (blk_below BK372.out hb)
          replace BK373 := am (blk_below BK373.out hb)
          replace BK374 := am (blk_below BK374.out hb)
          replace BK375 := am (blk_below BK375.out hb)
          replace BK391 := am (blk_below BK391.out hb)
          replace BK392 := am (blk_below BK392.out hb)
          replace HB := am (below_step HB.out hb)
          try clear hb
          try clear ho0
          refine hK.out _ _ ⟨(blk_cell BK372.out 0).trans rfl, (blk_cell BK372.out 1).trans rfl, (blk_cell BK373.out 0).trans rfl, (blk_cell BK373.out 1).trans rfl⟩ (fun hHeld => ?_)
          clear hK K
          refine norm_ (a' := ?_) ?_ ?_
          rotate_left
          ·
           show Act.put _ (some 32) _ = _
           simp only [Act.put, sI_, s0_, s1_, i64_w, i32_w]
           rfl
          exact norm_ (by (simp only [putAll, Act.put, sI_, s0_, s1_]; done)) (hJ6_11_12 (v385, gb391, gb392) _ ⟨hHeld, HO380.out, HO382.out, (by exact Kd.R_mono HO386.out (fun _ hk => ⟨hk.1.2, hk.2⟩)), BK372.out, BK373.out, BK374.out, BK375.out, BK391.out, BK392.out, GW391.out, GE391.out, NB372_391.out, NB391_372.out, NB373_391.out, NB391_373.out, NB374_391.out, NB391_374.out, NB375_391.out, NB391_375.out, NB392_391.out, NB391_392.out, GW392.out, GE392.out, NB372_392.out, NB392_372.out, NB373_392.out, NB392_373.out, NB374_392.out, NB392_374.out, NB375_392.out, NB392_375.out, HB.out⟩)
        ·
         skip
         rintro ⟨v385, gb392⟩ w25 ⟨hS_, h0_, h1_, h2_, h3_, h4_, h5_, h6_, h7_, h8_, h9_, h10_, h11_, h12_, h13_, h14_, h15_, h16_, h17_, h18_⟩
         have n0_ : Aside0 (Kd.R (Kd.int .u32) 78 w25 w.heap.size (fun k_ => some k_ ≠ (.slice Ao21 t377.length co21 : Value).ownBlock ∧ some k_ ≠ (v385 : Value).ownBlock) (.slice Ao20 t376.length co20) t376) := ⟨h0_⟩
         have n1_ : Aside0 (Kd.R (Kd.int .u32) 78 w25 w.heap.size (fun k_ => some k_ ≠ (.slice Ao20 t376.length co20 : Value).ownBlock ∧ some k_ ≠ (v385 : Value).ownBlock) (.slice Ao21 t377.length co21) t377) := ⟨h1_⟩
         have n2_ : Aside0 (Kd.R (Kd.int .u32) 78 w25 w.heap.size (fun k_ => some k_ ≠ (.slice Ao20 t376.length co20 : Value).ownBlock ∧ some k_ ≠ (.slice Ao21 t377.length co21 : Value).ownBlock) v385 t384) := ⟨h2_⟩
         have n3_ : Aside0 (w25.heap[gb372]? = some (.cells #[.bool a0_0, .slice A0_1 l0_1.length c0_1] 25 (0, 0))) := ⟨h3_⟩
         have n4_ : Aside0 (w25.heap[gb373]? = some (.cells #[.bool a1_0, .slice A1_1 l1_1.length c1_1] 25 (0, 0))) := ⟨h4_⟩
         have n5_ : Aside0 (w25.heap[gb374]? = some (.cells #[.bool false, .slice none 0 0] 25 (0, 0))) := ⟨h5_⟩
         have n6_ : Aside0 (w25.heap[gb375]? = some (.cells #[.bool false, .slice none 0 0] 25 (0, 0))) := ⟨h6_⟩
         have n7_ : Aside0 (w25.heap[gb392]? = some (.cells #[.bool false, .slice none 0 0] 25 (0, 0))) := ⟨h7_⟩
         have n8_ : Aside0 (w.heap.size ≤ gb392) := ⟨h8_⟩
         have n9_ : Aside0 (w.heap.size ≤ gb392) := ⟨h9_⟩
         have n10_ : Aside0 (gb372 ≠ gb392) := ⟨h10_⟩
         have n11_ : Aside0 (gb392 ≠ gb372) := ⟨h11_⟩
         have n12_ : Aside0 (gb373 ≠ gb392) := ⟨h12_⟩
         have n13_ : Aside0 (gb392 ≠ gb373) := ⟨h13_⟩
         have n14_ : Aside0 (gb374 ≠ gb392) := ⟨h14_⟩
         have n15_ : Aside0 (gb392 ≠ gb374) := ⟨h15_⟩
         have n16_ : Aside0 (gb375 ≠ gb392) := ⟨h16_⟩
         have n17_ : Aside0 (gb392 ≠ gb375) := ⟨h17_⟩
         have n18_ : Aside0 (Below w.heap.size w w25) := ⟨h18_⟩
         clear HO380
         clear HO382
         clear BK372
         clear BK373
         clear BK374
         clear BK375
         clear HB
         clear h0_ h1_ h2_ h3_ h4_ h5_ h6_ h7_ h8_ h9_ h10_ h11_ h12_ h13_ h14_ h15_ h16_ h17_ h18_
         have HO380 := n0_
         have HO382 := n1_
         have HO386 := n2_
         have BK372 := n3_
         have BK373 := n4_
         have BK374 := n5_
         have BK375 := n6_
         have BK392 := n7_
         have GW392 := n8_
         have GE392 := n9_
         have NB372_392 := n10_
         have NB392_372 := n11_
         have NB373_392 := n12_
         have NB392_373 := n13_
         have NB374_392 := n14_
         have NB392_374 := n15_
         have NB375_392 := n16_
         have NB392_375 := n17_
         have HB := n18_
         clear n0_ n1_ n2_ n3_ n4_ n5_ n6_ n7_ n8_ n9_ n10_ n11_ n12_ n13_ n14_ n15_ n16_ n17_ n18_
         have hHeld : w25.cell? ⟨gb372, 0, none⟩ = some (.bool a0_0) ∧ w25.cell? ⟨gb372, 1, none⟩ = some (.slice A0_1 l0_1.length c0_1) ∧ w25.cell? ⟨gb373, 0, none⟩ = some (.bool a1_0) ∧ w25.cell? ⟨gb373, 1, none⟩ = some (.slice A1_1 l1_1.length c1_1) := hS_
         refine norm_ (a' := ?_) ?_ ?_
         rotate_left
         ·
          simp only [putAll, Act.put, sI_, s0_, s1_]
          rfl
         refine two_ (i := 10) (j := 11) (Ni := some 36) (Nj := some 10) #[true, true, true, true, true, true, true, true, true, true, true, false, true, false, false] #[true, true, true, true, true, true, true, true, true, true, false, true, true, false, false] rfl rfl rfl rfl (two_of HT_.out (by kernel_rfl)) (by decide) (by decide) (fun K hK => ?_) (fun K hK => ?_)
         ·
          skip
          refine goes_ Try.func47 (by kernel_rfl) rfl #[.bool a0_0, .slice Ao21 t377.length co21] (by rfl) rfl rfl (by (try simp only [List.map_toArray, List.map_cons, List.map_nil]); rfl) ?_
          with_reducible refine (whole_norm.calls k a0_0 _ _ t377 t387 t388 _ ?side1 ?side2 A6.out).mono ?_
          (case side1 => exact (Kd.R_reads' HO382.out).2.2)
          (case side2 => exact (Kd.R_reads' HO382.out).2.1)
          rintro e w26 ⟨v389, rfl, ho0, hb⟩
          refine ⟨_, rfl, ?_⟩
          have HO390 := am (Kd.R_lower (Kd.R_new' (Kd.R_new' (Kd.R_new' ho0 (Kd.R_lt HO380.out)) (Kd.R_lt HO382.out)) (Kd.R_lt HO386.out)) (below_size HB.out))
          replace HO380 := am (Kd.R_elder' HO380.out (Kd.R_base ho0) hb)
          replace HO382 := am (Kd.R_elder' HO382.out (Kd.R_base ho0) hb)
          replace HO386 := am (Kd.R_elder' HO386.out (Kd.R_base ho0) hb)
          replace BK372 := am (blk_below BK372.out hb)
          replace BK373 := am (blk_below BK373.out hb)
          replace BK374 := am (blk_below BK374.out hb)
          replace BK375 := am (blk_below BK375.out hb)
          replace BK392 := am (blk_below BK392.out hb)
          replace HB := am (below_step HB.out hb)
          try clear hb
          try clear ho0
          refine hK.out _ _ ⟨(blk_cell BK372.out 0).trans rfl, (blk_cell BK372.out 1).trans rfl, (blk_cell BK373.out 0).trans rfl, (blk_cell BK373.out 1).trans rfl⟩ (fun hHeld => ?_)
          clear hK K
          refine norm_ (a' := ?_) ?_ ?_
          rotate_left
          ·
           show Act.put _ (some 36) _ = _
           simp only [Act.put, sI_, s0_, s1_, i64_w, i32_w]
           rfl
          exact norm_ (by (simp only [putAll, Act.put, sI_, s0_, s1_]; done)) (hJ6_10_12 (v385, v389, gb392) _ ⟨hHeld, (by exact Kd.R_mono HO380.out (fun _ hk => ⟨hk.1.1, ⟨hk.1.2, hk.2⟩⟩)), (by exact Kd.R_mono HO382.out (fun _ hk => ⟨hk.1.1, ⟨hk.1.2, hk.2⟩⟩)), (by exact Kd.R_mono HO386.out (fun _ hk => ⟨hk.1.1, ⟨hk.1.2, hk.2⟩⟩)), (by exact Kd.R_mono HO390.out (fun _ hk => ⟨hk.1.1.2, ⟨hk.1.2, hk.2⟩⟩)), BK372.out, BK373.out, BK374.out, BK375.out, BK392.out, GW392.out, GE392.out, NB372_392.out, NB392_372.out, NB373_392.out, NB392_373.out, NB374_392.out, NB392_374.out, NB375_392.out, NB392_375.out, HB.out⟩)
         ·
          skip
          refine box_step ?hg (N := 10) ?hd (cs := #[.bool false, .slice none 0 0]) (t := 25) ?hr ?_; (case hd => rfl); (case hg => rfl); (case hr => (go_simp; done))
          intro gb391 hg w26 hbox hb
          replace HO380 := am (Kd.R_below HO380.out hb)
          replace HO382 := am (Kd.R_below HO382.out hb)
          replace HO386 := am (Kd.R_below HO386.out hb)
          have BK391 := am hbox
          have GW391 := am (gel hg HB.out)
          have GE391 := am (gel hg HB.out)
          replace HB := am (below_step HB.out hb)
          have NB372_391 := am (nel hg BK372.out)
          have NB391_372 := am (ner hg BK372.out)
          replace BK372 := am (blk_below BK372.out hb)
          have NB373_391 := am (nel hg BK373.out)
          have NB391_373 := am (ner hg BK373.out)
          replace BK373 := am (blk_below BK373.out hb)
          have NB374_391 := am (nel hg BK374.out)
          have NB391_374 := am (ner hg BK374.out)
          replace BK374 := am (blk_below BK374.out hb)
          have NB375_391 := am (nel hg BK375.out)
          have NB391_375 := am (ner hg BK375.out)
          replace BK375 := am (blk_below BK375.out hb)
          have NB392_391 := am (nel hg BK392.out)
          have NB391_392 := am (ner hg BK392.out)
          replace BK392 := am (blk_below BK392.out hb)
          clear hb hbox hg
          refine hK.out _ _ ⟨(blk_cell BK372.out 0).trans rfl, (blk_cell BK372.out 1).trans rfl, (blk_cell BK373.out 0).trans rfl, (blk_cell BK373.out 1).trans rfl⟩ (fun hHeld => ?_)
          clear hK K
          refine norm_ (a' := ?_) ?_ ?_
          rotate_left
          ·
           show Act.put _ (some 10) _ = _
           simp only [Act.put, sI_, s0_, s1_, i64_w, i32_w]
           rfl
          exact norm_ (by (simp only [putAll, Act.put, sI_, s0_, s1_]; done)) (hJ6_11_12 (v385, gb391, gb392) _ ⟨hHeld, HO380.out, HO382.out, HO386.out, BK372.out, BK373.out, BK374.out, BK375.out, BK391.out, BK392.out, GW391.out, GE391.out, NB372_391.out, NB391_372.out, NB373_391.out, NB391_373.out, NB374_391.out, NB391_374.out, NB375_391.out, NB391_375.out, NB392_391.out, NB391_392.out, GW392.out, GE392.out, NB372_392.out, NB392_372.out, NB373_392.out, NB392_373.out, NB374_392.out, NB392_374.out, NB375_392.out, NB392_375.out, HB.out⟩)
       ·
        skip
        rintro ⟨v385, gb391⟩ w25 ⟨hS_, h0_, h1_, h2_, h3_, h4_, h5_, h6_, h7_, h8_, h9_, h10_, h11_, h12_, h13_, h14_, h15_, h16_, h17_, h18_⟩
        have n0_ : Aside0 (Kd.R (Kd.int .u32) 78 w25 w.heap.size (fun k_ => some k_ ≠ (.slice Ao21 t377.length co21 : Value).ownBlock ∧ some k_ ≠ (v385 : Value).ownBlock) (.slice Ao20 t376.length co20) t376) := ⟨h0_⟩
        have n1_ : Aside0 (Kd.R (Kd.int .u32) 78 w25 w.heap.size (fun k_ => some k_ ≠ (.slice Ao20 t376.length co20 : Value).ownBlock ∧ some k_ ≠ (v385 : Value).ownBlock) (.slice Ao21 t377.length co21) t377) := ⟨h1_⟩
        have n2_ : Aside0 (Kd.R (Kd.int .u32) 78 w25 w.heap.size (fun k_ => some k_ ≠ (.slice Ao20 t376.length co20 : Value).ownBlock ∧ some k_ ≠ (.slice Ao21 t377.length co21 : Value).ownBlock) v385 t384) := ⟨h2_⟩
        have n3_ : Aside0 (w25.heap[gb372]? = some (.cells #[.bool a0_0, .slice A0_1 l0_1.length c0_1] 25 (0, 0))) := ⟨h3_⟩
        have n4_ : Aside0 (w25.heap[gb373]? = some (.cells #[.bool a1_0, .slice A1_1 l1_1.length c1_1] 25 (0, 0))) := ⟨h4_⟩
        have n5_ : Aside0 (w25.heap[gb374]? = some (.cells #[.bool false, .slice none 0 0] 25 (0, 0))) := ⟨h5_⟩
        have n6_ : Aside0 (w25.heap[gb375]? = some (.cells #[.bool false, .slice none 0 0] 25 (0, 0))) := ⟨h6_⟩
        have n7_ : Aside0 (w25.heap[gb391]? = some (.cells #[.bool false, .slice none 0 0] 25 (0, 0))) := ⟨h7_⟩
        have n8_ : Aside0 (w.heap.size ≤ gb391) := ⟨h8_⟩
        have n9_ : Aside0 (w.heap.size ≤ gb391) := ⟨h9_⟩
        have n10_ : Aside0 (gb372 ≠ gb391) := ⟨h10_⟩
        have n11_ : Aside0 (gb391 ≠ gb372) := ⟨h11_⟩
        have n12_ : Aside0 (gb373 ≠ gb391) := ⟨h12_⟩
        have n13_ : Aside0 (gb391 ≠ gb373) := ⟨h13_⟩
        have n14_ : Aside0 (gb374 ≠ gb391) := ⟨h14_⟩
        have n15_ : Aside0 (gb391 ≠ gb374) := ⟨h15_⟩
        have n16_ : Aside0 (gb375 ≠ gb391) := ⟨h16_⟩
        have n17_ : Aside0 (gb391 ≠ gb375) := ⟨h17_⟩
        have n18_ : Aside0 (Below w.heap.size w w25) := ⟨h18_⟩
        clear HO380
        clear HO382
        clear BK372
        clear BK373
        clear BK374
        clear BK375
        clear HB
        clear h0_ h1_ h2_ h3_ h4_ h5_ h6_ h7_ h8_ h9_ h10_ h11_ h12_ h13_ h14_ h15_ h16_ h17_ h18_
        have HO380 := n0_
        have HO382 := n1_
        have HO386 := n2_
        have BK372 := n3_
        have BK373 := n4_
        have BK374 := n5_
        have BK375 := n6_
        have BK391 := n7_
        have GW391 := n8_
        have GE391 := n9_
        have NB372_391 := n10_
        have NB391_372 := n11_
        have NB373_391 := n12_
        have NB391_373 := n13_
        have NB374_391 := n14_
        have NB391_374 := n15_
        have NB375_391 := n16_
        have NB391_375 := n17_
        have HB := n18_
        clear n0_ n1_ n2_ n3_ n4_ n5_ n6_ n7_ n8_ n9_ n10_ n11_ n12_ n13_ n14_ n15_ n16_ n17_ n18_
        have hHeld : w25.cell? ⟨gb372, 0, none⟩ = some (.bool a0_0) ∧ w25.cell? ⟨gb372, 1, none⟩ = some (.slice A0_1 l0_1.length c0_1) ∧ w25.cell? ⟨gb373, 0, none⟩ = some (.bool a1_0) ∧ w25.cell? ⟨gb373, 1, none⟩ = some (.slice A1_1 l1_1.length c1_1) := hS_
        refine norm_ (a' := ?_) ?_ ?_
        rotate_left
        ·
         simp only [putAll, Act.put, sI_, s0_, s1_]
         rfl
        refine two_ (i := 10) (j := 12) (Ni := some 36) (Nj := some 11) #[true, true, true, true, true, true, true, true, true, true, true, true, false, false, false] #[true, true, true, true, true, true, true, true, true, true, false, true, true, false, false] rfl rfl rfl rfl (two_of HT_.out (by kernel_rfl)) (by decide) (by decide) (fun K hK => ?_) (fun K hK => ?_)
        ·
         skip
         refine goes_ Try.func47 (by kernel_rfl) rfl #[.bool a0_0, .slice Ao21 t377.length co21] (by rfl) rfl rfl (by (try simp only [List.map_toArray, List.map_cons, List.map_nil]); rfl) ?_
         with_reducible refine (whole_norm.calls k a0_0 _ _ t377 t387 t388 _ ?side1 ?side2 A6.out).mono ?_
         (case side1 => exact (Kd.R_reads' HO382.out).2.2)
         (case side2 => exact (Kd.R_reads' HO382.out).2.1)
         rintro e w26 ⟨v389, rfl, ho0, hb⟩
         refine ⟨_, rfl, ?_⟩
         have HO390 := am (Kd.R_lower (Kd.R_new' (Kd.R_new' (Kd.R_new' ho0 (Kd.R_lt HO380.out)) (Kd.R_lt HO382.out)) (Kd.R_lt HO386.out)) (below_size HB.out))
         replace HO380 := am (Kd.R_elder' HO380.out (Kd.R_base ho0) hb)
         replace HO382 := am (Kd.R_elder' HO382.out (Kd.R_base ho0) hb)
         replace HO386 := am (Kd.R_elder' HO386.out (Kd.R_base ho0) hb)
         replace BK372 := am (blk_below BK372.out hb)
         replace BK373 := am (blk_below BK373.out hb)
         replace BK374 := am (blk_below BK374.out hb)
         replace BK375 := am (blk_below BK375.out hb)
         replace BK391 := am (blk_below BK391.out hb)
         replace HB := am (below_step HB.out hb)
         try clear hb
         try clear ho0
         refine hK.out _ _ ⟨(blk_cell BK372.out 0).trans rfl, (blk_cell BK372.out 1).trans rfl, (blk_cell BK373.out 0).trans rfl, (blk_cell BK373.out 1).trans rfl⟩ (fun hHeld => ?_)
         clear hK K
         refine norm_ (a' := ?_) ?_ ?_
         rotate_left
         ·
          show Act.put _ (some 36) _ = _
          simp only [Act.put, sI_, s0_, s1_, i64_w, i32_w]
          rfl
         exact norm_ (by (simp only [putAll, Act.put, sI_, s0_, s1_]; done)) (hJ6_10_11 (v385, v389, gb391) _ ⟨hHeld, (by exact Kd.R_mono HO380.out (fun _ hk => ⟨hk.1.1, ⟨hk.1.2, hk.2⟩⟩)), (by exact Kd.R_mono HO382.out (fun _ hk => ⟨hk.1.1, ⟨hk.1.2, hk.2⟩⟩)), (by exact Kd.R_mono HO386.out (fun _ hk => ⟨hk.1.1, ⟨hk.1.2, hk.2⟩⟩)), (by exact Kd.R_mono HO390.out (fun _ hk => ⟨hk.1.1.2, ⟨hk.1.2, hk.2⟩⟩)), BK372.out, BK373.out, BK374.out, BK375.out, BK391.out, GW391.out, GE391.out, NB372_391.out, NB391_372.out, NB373_391.out, NB391_373.out, NB374_391.out, NB391_374.out, NB375_391.out, NB391_375.out, HB.out⟩)
        ·
         skip
         refine box_step ?hg (N := 11) ?hd (cs := #[.bool false, .slice none 0 0]) (t := 25) ?hr ?_; (case hd => rfl); (case hg => rfl); (case hr => (go_simp; done))
         intro gb392 hg w26 hbox hb
         replace HO380 := am (Kd.R_below HO380.out hb)
         replace HO382 := am (Kd.R_below HO382.out hb)
         replace HO386 := am (Kd.R_below HO386.out hb)
         have BK392 := am hbox
         have GW392 := am (gel hg HB.out)
         have GE392 := am (gel hg HB.out)
         replace HB := am (below_step HB.out hb)
         have NB372_392 := am (nel hg BK372.out)
         have NB392_372 := am (ner hg BK372.out)
         replace BK372 := am (blk_below BK372.out hb)
         have NB373_392 := am (nel hg BK373.out)
         have NB392_373 := am (ner hg BK373.out)
         replace BK373 := am (blk_below BK373.out hb)
         have NB374_392 := am (nel hg BK374.out)
         have NB392_374 := am (ner hg BK374.out)
         replace BK374 := am (blk_below BK374.out hb)
         have NB375_392 := am (nel hg BK375.out)
         have NB392_375 := am (ner hg BK375.out)
         replace BK375 := am (blk_below BK375.out hb)
         have NB391_392 := am (nel hg BK391.out)
         have NB392_391 := am (ner hg BK391.out)
         replace BK391 := am (blk_below BK391.out hb)
         clear hb hbox hg
         refine hK.out _ _ ⟨(blk_cell BK372.out 0).trans rfl, (blk_cell BK372.out 1).trans rfl, (blk_cell BK373.out 0).trans rfl, (blk_cell BK373.out 1).trans rfl⟩ (fun hHeld => ?_)
         clear hK K
         refine norm_ (a' := ?_) ?_ ?_
         rotate_left
         ·
          show Act.put _ (some 11) _ = _
          simp only [Act.put, sI_, s0_, s1_, i64_w, i32_w]
          rfl
         exact norm_ (by (simp only [putAll, Act.put, sI_, s0_, s1_]; done)) (hJ6_11_12 (v385, gb391, gb392) _ ⟨hHeld, HO380.out, HO382.out, HO386.out, BK372.out, BK373.out, BK374.out, BK375.out, BK391.out, BK392.out, GW391.out, GE391.out, NB372_391.out, NB391_372.out, NB373_391.out, NB391_373.out, NB374_391.out, NB391_374.out, NB375_391.out, NB391_375.out, NB392_391.out, NB391_392.out, GW392.out, GE392.out, NB372_392.out, NB392_372.out, NB373_392.out, NB392_373.out, NB374_392.out, NB392_374.out, NB375_392.out, NB392_375.out, HB.out⟩)
      ·
       skip
       rintro ⟨v385, v389⟩ w25 ⟨hS_, h0_, h1_, h2_, h3_, h4_, h5_, h6_, h7_, h8_⟩
       have n0_ : Aside0 (Kd.R (Kd.int .u32) 78 w25 w.heap.size (fun k_ => some k_ ≠ (.slice Ao21 t377.length co21 : Value).ownBlock ∧ some k_ ≠ (v385 : Value).ownBlock ∧ some k_ ≠ (v389 : Value).ownBlock) (.slice Ao20 t376.length co20) t376) := ⟨h0_⟩
       have n1_ : Aside0 (Kd.R (Kd.int .u32) 78 w25 w.heap.size (fun k_ => some k_ ≠ (.slice Ao20 t376.length co20 : Value).ownBlock ∧ some k_ ≠ (v385 : Value).ownBlock ∧ some k_ ≠ (v389 : Value).ownBlock) (.slice Ao21 t377.length co21) t377) := ⟨h1_⟩
       have n2_ : Aside0 (Kd.R (Kd.int .u32) 78 w25 w.heap.size (fun k_ => some k_ ≠ (.slice Ao20 t376.length co20 : Value).ownBlock ∧ some k_ ≠ (.slice Ao21 t377.length co21 : Value).ownBlock ∧ some k_ ≠ (v389 : Value).ownBlock) v385 t384) := ⟨h2_⟩
       have n3_ : Aside0 (Kd.R (Kd.int .u32) 78 w25 w.heap.size (fun k_ => some k_ ≠ (.slice Ao20 t376.length co20 : Value).ownBlock ∧ some k_ ≠ (.slice Ao21 t377.length co21 : Value).ownBlock ∧ some k_ ≠ (v385 : Value).ownBlock) v389 t388) := ⟨h3_⟩
       have n4_ : Aside0 (w25.heap[gb372]? = some (.cells #[.bool a0_0, .slice A0_1 l0_1.length c0_1] 25 (0, 0))) := ⟨h4_⟩
       have n5_ : Aside0 (w25.heap[gb373]? = some (.cells #[.bool a1_0, .slice A1_1 l1_1.length c1_1] 25 (0, 0))) := ⟨h5_⟩
       have n6_ : Aside0 (w25.heap[gb374]? = some (.cells #[.bool false, .slice none 0 0] 25 (0, 0))) := ⟨h6_⟩
       have n7_ : Aside0 (w25.heap[gb375]? = some (.cells #[.bool false, .slice none 0 0] 25 (0, 0))) := ⟨h7_⟩
       have n8_ : Aside0 (Below w.heap.size w w25) := ⟨h8_⟩
       clear HO380
       clear HO382
       clear BK372
       clear BK373
       clear BK374
       clear BK375
       clear HB
       clear h0_ h1_ h2_ h3_ h4_ h5_ h6_ h7_ h8_
       have HO380 := n0_
       have HO382 := n1_
       have HO386 := n2_
       have HO390 := n3_
       have BK372 := n4_
       have BK373 := n5_
       have BK374 := n6_
       have BK375 := n7_
       have HB := n8_
       clear n0_ n1_ n2_ n3_ n4_ n5_ n6_ n7_ n8_
       have hHeld : w25.cell? ⟨gb372, 0, none⟩ = some (.bool a0_0) ∧ w25.cell? ⟨gb372, 1, none⟩ = some (.slice A0_1 l0_1.length c0_1) ∧ w25.cell? ⟨gb373, 0, none⟩ = some (.bool a1_0) ∧ w25.cell? ⟨gb373, 1, none⟩ = some (.slice A1_1 l1_1.length c1_1) := hS_
       refine norm_ (a' := ?_) ?_ ?_
       rotate_left
       ·
        simp only [putAll, Act.put, sI_, s0_, s1_]
        rfl
       refine two_ (i := 11) (j := 12) (Ni := some 10) (Nj := some 11) #[true, true, true, true, true, true, true, true, true, true, true, true, false, false, false] #[true, true, true, true, true, true, true, true, true, true, true, false, true, false, false] rfl rfl rfl rfl (two_of HT_.out (by kernel_rfl)) (by decide) (by decide) (fun K hK => ?_) (fun K hK => ?_)
       ·
        skip
        refine box_step ?hg (N := 10) ?hd (cs := #[.bool false, .slice none 0 0]) (t := 25) ?hr ?_; (case hd => rfl); (case hg => rfl); (case hr => (go_simp; done))
        intro gb391 hg w26 hbox hb
        replace HO380 := am (Kd.R_below HO380.out hb)
        replace HO382 := am (Kd.R_below HO382.out hb)
        replace HO386 := am (Kd.R_below HO386.out hb)
        replace HO390 := am (Kd.R_below HO390.out hb)
        have BK391 := am hbox
        have GW391 := am (gel hg HB.out)
        have GE391 := am (gel hg HB.out)
        replace HB := am (below_step HB.out hb)
        have NB372_391 := am (nel hg BK372.out)
        have NB391_372 := am (ner hg BK372.out)
        replace BK372 := am (blk_below BK372.out hb)
        have NB373_391 := am (nel hg BK373.out)
        have NB391_373 := am (ner hg BK373.out)
        replace BK373 := am (blk_below BK373.out hb)
        have NB374_391 := am (nel hg BK374.out)
        have NB391_374 := am (ner hg BK374.out)
        replace BK374 := am (blk_below BK374.out hb)
        have NB375_391 := am (nel hg BK375.out)
        have NB391_375 := am (ner hg BK375.out)
        replace BK375 := am (blk_below BK375.out hb)
        clear hb hbox hg
        refine hK.out _ _ ⟨(blk_cell BK372.out 0).trans rfl, (blk_cell BK372.out 1).trans rfl, (blk_cell BK373.out 0).trans rfl, (blk_cell BK373.out 1).trans rfl⟩ (fun hHeld => ?_)
        clear hK K
        refine norm_ (a' := ?_) ?_ ?_
        rotate_left
        ·
         show Act.put _ (some 10) _ = _
         simp only [Act.put, sI_, s0_, s1_, i64_w, i32_w]
         rfl
        exact norm_ (by (simp only [putAll, Act.put, sI_, s0_, s1_]; done)) (hJ6_10_11 (v385, v389, gb391) _ ⟨hHeld, HO380.out, HO382.out, HO386.out, HO390.out, BK372.out, BK373.out, BK374.out, BK375.out, BK391.out, GW391.out, GE391.out, NB372_391.out, NB391_372.out, NB373_391.out, NB391_373.out, NB374_391.out, NB391_374.out, NB375_391.out, NB391_375.out, HB.out⟩)
       ·
        skip
        refine box_step ?hg (N := 11) ?hd (cs := #[.bool false, .slice none 0 0]) (t := 25) ?hr ?_; (case hd => rfl); (case hg => rfl); (case hr => (go_simp; done))
        intro gb392 hg w26 hbox hb
        replace HO380 := am (Kd.R_below HO380.out hb)
        replace HO382 := am (Kd.R_below HO382.out hb)
        replace HO386 := am (Kd.R_below HO386.out hb)
        replace HO390 := am (Kd.R_below HO390.out hb)
        have BK392 := am hbox
        have GW392 := am (gel hg HB.out)
        have GE392 := am (gel hg HB.out)
        replace HB := am (below_step HB.out hb)
        have NB372_392 := am (nel hg BK372.out)
        have NB392_372 := am (ner hg BK372.out)
        replace BK372 := am (blk_below BK372.out hb)
        have NB373_392 := am (nel hg BK373.out)
        have NB392_373 := am (ner hg BK373.out)
        replace BK373 := am (blk_below BK373.out hb)
        have NB374_392 := am (nel hg BK374.out)
        have NB392_374 := am (ner hg BK374.out)
        replace BK374 := am (blk_below BK374.out hb)
        have NB375_392 := am (nel hg BK375.out)
        have NB392_375 := am (ner hg BK375.out)
        replace BK375 := am (blk_below BK375.out hb)
        clear hb hbox hg
        refine hK.out _ _ ⟨(blk_cell BK372.out 0).trans rfl, (blk_cell BK372.out 1).trans rfl, (blk_cell BK373.out 0).trans rfl, (blk_cell BK373.out 1).trans rfl⟩ (fun hHeld => ?_)
        clear hK K
        refine norm_ (a' := ?_) ?_ ?_
        rotate_left
        ·
         show Act.put _ (some 11) _ = _
         simp only [Act.put, sI_, s0_, s1_, i64_w, i32_w]
         rfl
        exact norm_ (by (simp only [putAll, Act.put, sI_, s0_, s1_]; done)) (hJ6_10_12 (v385, v389, gb392) _ ⟨hHeld, HO380.out, HO382.out, HO386.out, HO390.out, BK372.out, BK373.out, BK374.out, BK375.out, BK392.out, GW392.out, GE392.out, NB372_392.out, NB392_372.out, NB373_392.out, NB392_373.out, NB374_392.out, NB392_374.out, NB375_392.out, NB392_375.out, HB.out⟩)
     ·
      skip
      rintro ⟨v385, gb391, gb392⟩ w26 ⟨hS_, h0_, h1_, h2_, h3_, h4_, h5_, h6_, h7_, h8_, h9_, h10_, h11_, h12_, h13_, h14_, h15_, h16_, h17_, h18_, h19_, h20_, h21_, h22_, h23_, h24_, h25_, h26_, h27_, h28_, h29_, h30_, h31_⟩
      have n0_ : Aside0 (Kd.R (Kd.int .u32) 78 w26 w.heap.size (fun k_ => some k_ ≠ (.slice Ao21 t377.length co21 : Value).ownBlock ∧ some k_ ≠ (v385 : Value).ownBlock) (.slice Ao20 t376.length co20) t376) := ⟨h0_⟩
      have n1_ : Aside0 (Kd.R (Kd.int .u32) 78 w26 w.heap.size (fun k_ => some k_ ≠ (.slice Ao20 t376.length co20 : Value).ownBlock ∧ some k_ ≠ (v385 : Value).ownBlock) (.slice Ao21 t377.length co21) t377) := ⟨h1_⟩
      have n2_ : Aside0 (Kd.R (Kd.int .u32) 78 w26 w.heap.size (fun k_ => some k_ ≠ (.slice Ao20 t376.length co20 : Value).ownBlock ∧ some k_ ≠ (.slice Ao21 t377.length co21 : Value).ownBlock) v385 t384) := ⟨h2_⟩
      have n3_ : Aside0 (w26.heap[gb372]? = some (.cells #[.bool a0_0, .slice A0_1 l0_1.length c0_1] 25 (0, 0))) := ⟨h3_⟩
      have n4_ : Aside0 (w26.heap[gb373]? = some (.cells #[.bool a1_0, .slice A1_1 l1_1.length c1_1] 25 (0, 0))) := ⟨h4_⟩
      have n5_ : Aside0 (w26.heap[gb374]? = some (.cells #[.bool false, .slice none 0 0] 25 (0, 0))) := ⟨h5_⟩
      have n6_ : Aside0 (w26.heap[gb375]? = some (.cells #[.bool false, .slice none 0 0] 25 (0, 0))) := ⟨h6_⟩
      have n7_ : Aside0 (w26.heap[gb391]? = some (.cells #[.bool false, .slice none 0 0] 25 (0, 0))) := ⟨h7_⟩
      have n8_ : Aside0 (w26.heap[gb392]? = some (.cells #[.bool false, .slice none 0 0] 25 (0, 0))) := ⟨h8_⟩
      have n9_ : Aside0 (w.heap.size ≤ gb391) := ⟨h9_⟩
      have n10_ : Aside0 (w.heap.size ≤ gb391) := ⟨h10_⟩
      have n11_ : Aside0 (gb372 ≠ gb391) := ⟨h11_⟩
      have n12_ : Aside0 (gb391 ≠ gb372) := ⟨h12_⟩
      have n13_ : Aside0 (gb373 ≠ gb391) := ⟨h13_⟩
      have n14_ : Aside0 (gb391 ≠ gb373) := ⟨h14_⟩
      have n15_ : Aside0 (gb374 ≠ gb391) := ⟨h15_⟩
      have n16_ : Aside0 (gb391 ≠ gb374) := ⟨h16_⟩
      have n17_ : Aside0 (gb375 ≠ gb391) := ⟨h17_⟩
      have n18_ : Aside0 (gb391 ≠ gb375) := ⟨h18_⟩
      have n19_ : Aside0 (gb392 ≠ gb391) := ⟨h19_⟩
      have n20_ : Aside0 (gb391 ≠ gb392) := ⟨h20_⟩
      have n21_ : Aside0 (w.heap.size ≤ gb392) := ⟨h21_⟩
      have n22_ : Aside0 (w.heap.size ≤ gb392) := ⟨h22_⟩
      have n23_ : Aside0 (gb372 ≠ gb392) := ⟨h23_⟩
      have n24_ : Aside0 (gb392 ≠ gb372) := ⟨h24_⟩
      have n25_ : Aside0 (gb373 ≠ gb392) := ⟨h25_⟩
      have n26_ : Aside0 (gb392 ≠ gb373) := ⟨h26_⟩
      have n27_ : Aside0 (gb374 ≠ gb392) := ⟨h27_⟩
      have n28_ : Aside0 (gb392 ≠ gb374) := ⟨h28_⟩
      have n29_ : Aside0 (gb375 ≠ gb392) := ⟨h29_⟩
      have n30_ : Aside0 (gb392 ≠ gb375) := ⟨h30_⟩
      have n31_ : Aside0 (Below w.heap.size w w26) := ⟨h31_⟩
      clear HO380
      clear HO382
      clear BK372
      clear BK373
      clear BK374
      clear BK375
      clear HB
      clear h0_ h1_ h2_ h3_ h4_ h5_ h6_ h7_ h8_ h9_ h10_ h11_ h12_ h13_ h14_ h15_ h16_ h17_ h18_ h19_ h20_ h21_ h22_ h23_ h24_ h25_ h26_ h27_ h28_ h29_ h30_ h31_
      have HO380 := n0_
      have HO382 := n1_
      have HO386 := n2_
      have BK372 := n3_
      have BK373 := n4_
      have BK374 := n5_
      have BK375 := n6_
      have BK391 := n7_
      have BK392 := n8_
      have GW391 := n9_
      have GE391 := n10_
      have NB372_391 := n11_
      have NB391_372 := n12_
      have NB373_391 := n13_
      have NB391_373 := n14_
      have NB374_391 := n15_
      have NB391_374 := n16_
      have NB375_391 := n17_
      have NB391_375 := n18_
      have NB392_391 := n19_
      have NB391_392 := n20_
      have GW392 := n21_
      have GE392 := n22_
      have NB372_392 := n23_
      have NB392_372 := n24_
      have NB373_392 := n25_
      have NB392_373 := n26_
      have NB374_392 := n27_
      have NB392_374 := n28_
      have NB375_392 := n29_
      have NB392_375 := n30_
      have HB := n31_
      clear n0_ n1_ n2_ n3_ n4_ n5_ n6_ n7_ n8_ n9_ n10_ n11_ n12_ n13_ n14_ n15_ n16_ n17_ n18_ n19_ n20_ n21_ n22_ n23_ n24_ n25_ n26_ n27_ n28_ n29_ n30_ n31_
      have hHeld : w26.cell? ⟨gb372, 0, none⟩ = some (.bool a0_0) ∧ w26.cell? ⟨gb372, 1, none⟩ = some (.slice A0_1 l0_1.length c0_1) ∧ w26.cell? ⟨gb373, 0, none⟩ = some (.bool a1_0) ∧ w26.cell? ⟨gb373, 1, none⟩ = some (.slice A1_1 l1_1.length c1_1) := hS_
      refine norm_ (a' := ?_) ?_ ?_
      rotate_left
      ·
       simp only [putAll, Act.put, sI_, s0_, s1_]
       rfl
      refine one_ (i := 10) (N := some 36) #[true, true, true, true, true, true, true, true, true, true, true, true, true, false, false] rfl rfl (one_of HT_.out (by kernel_rfl)) (by decide) (fun K hK => ?_)
      refine goes_ Try.func47 (by kernel_rfl) rfl #[.bool a0_0, .slice Ao21 t377.length co21] (by rfl) rfl rfl (by (try simp only [List.map_toArray, List.map_cons, List.map_nil]); rfl) ?_
      with_reducible refine (whole_norm.calls k a0_0 _ _ t377 t387 t388 _ ?side1 ?side2 A6.out).mono ?_
      (case side1 => exact (Kd.R_reads' HO382.out).2.2)
      (case side2 => exact (Kd.R_reads' HO382.out).2.1)
      rintro e w27 ⟨v389, rfl, ho0, hb⟩
      refine ⟨_, rfl, ?_⟩
      have HO390 := am (Kd.R_lower (Kd.R_new' (Kd.R_new' (Kd.R_new' ho0 (Kd.R_lt HO380.out)) (Kd.R_lt HO382.out)) (Kd.R_lt HO386.out)) (below_size HB.out))
      replace HO380 := am (Kd.R_elder' HO380.out (Kd.R_base ho0) hb)
      replace HO382 := am (Kd.R_elder' HO382.out (Kd.R_base ho0) hb)
      replace HO386 := am (Kd.R_elder' HO386.out (Kd.R_base ho0) hb)
      replace BK372 := am (blk_below BK372.out hb)
      replace BK373 := am (blk_below BK373.out hb)
      replace BK374 := am (blk_below BK374.out hb)
      replace BK375 := am (blk_below BK375.out hb)
      replace BK391 := am (blk_below BK391.out hb)
      replace BK392 := am (blk_below BK392.out hb)
      replace HB := am (below_step HB.out hb)
      try clear hb
      try clear ho0
      refine hK.out _ _ ⟨(blk_cell BK372.out 0).trans rfl, (blk_cell BK372.out 1).trans rfl, (blk_cell BK373.out 0).trans rfl, (blk_cell BK373.out 1).trans rfl⟩ (fun hHeld => ?_)
      clear hK K
      refine norm_ (a' := ?_) ?_ ?_
      rotate_left
      ·
       show Act.put _ (some 36) _ = _
       simp only [Act.put, sI_, s0_, s1_, i64_w, i32_w]
       rfl
      exact norm_ (by (simp only [putAll, Act.put, sI_, s0_, s1_]; done)) (hJ6_10_11_12 (v385, v389, gb391, gb392) _ ⟨hHeld, (by exact Kd.R_mono HO380.out (fun _ hk => ⟨hk.1.1, ⟨hk.1.2, hk.2⟩⟩)), (by exact Kd.R_mono HO382.out (fun _ hk => ⟨hk.1.1, ⟨hk.1.2, hk.2⟩⟩)), (by exact Kd.R_mono HO386.out (fun _ hk => ⟨hk.1.1, ⟨hk.1.2, hk.2⟩⟩)), (by exact Kd.R_mono HO390.out (fun _ hk => ⟨hk.1.1.2, ⟨hk.1.2, hk.2⟩⟩)), BK372.out, BK373.out, BK374.out, BK375.out, BK391.out, BK392.out, GW391.out, GE391.out, NB372_391.out, NB391_372.out, NB373_391.out, NB391_373.out, NB374_391.out, NB391_374.out, NB375_391.out, NB391_375.out, NB392_391.out, NB391_392.out, GW392.out, GE392.out, NB372_392.out, NB392_372.out, NB373_392.out, NB392_373.out, NB374_392.out, NB392_374.out, NB375_392.out, NB392_375.out, HB.out⟩)
    ·
     skip
     rintro ⟨v385, v389, gb392⟩ w26 ⟨hS_, h0_, h1_, h2_, h3_, h4_, h5_, h6_, h7_, h8_, h9_, h10_, h11_, h12_, h13_, h14_, h15_, h16_, h17_, h18_, h19_⟩
     have n0_ : Aside0 (Kd.R (Kd.int .u32) 78 w26 w.heap.size (fun k_ => some k_ ≠ (.slice Ao21 t377.length co21 : Value).ownBlock ∧ some k_ ≠ (v385 : Value).ownBlock ∧ some k_ ≠ (v389 : Value).ownBlock) (.slice Ao20 t376.length co20) t376) := ⟨h0_⟩
     have n1_ : Aside0 (Kd.R (Kd.int .u32) 78 w26 w.heap.size (fun k_ => some k_ ≠ (.slice Ao20 t376.length co20 : Value).ownBlock ∧ some k_ ≠ (v385 : Value).ownBlock ∧ some k_ ≠ (v389 : Value).ownBlock) (.slice Ao21 t377.length co21) t377) := ⟨h1_⟩
     have n2_ : Aside0 (Kd.R (Kd.int .u32) 78 w26 w.heap.size (fun k_ => some k_ ≠ (.slice Ao20 t376.length co20 : Value).ownBlock ∧ some k_ ≠ (.slice Ao21 t377.length co21 : Value).ownBlock ∧ some k_ ≠ (v389 : Value).ownBlock) v385 t384) := ⟨h2_⟩
     have n3_ : Aside0 (Kd.R (Kd.int .u32) 78 w26 w.heap.size (fun k_ => some k_ ≠ (.slice Ao20 t376.length co20 : Value).ownBlock ∧ some k_ ≠ (.slice Ao21 t377.length co21 : Value).ownBlock ∧ some k_ ≠ (v385 : Value).ownBlock) v389 t388) := ⟨h3_⟩
     have n4_ : Aside0 (w26.heap[gb372]? = some (.cells #[.bool a0_0, .slice A0_1 l0_1.length c0_1] 25 (0, 0))) := ⟨h4_⟩
     have n5_ : Aside0 (w26.heap[gb373]? = some (.cells #[.bool a1_0, .slice A1_1 l1_1.length c1_1] 25 (0, 0))) := ⟨h5_⟩
     have n6_ : Aside0 (w26.heap[gb374]? = some (.cells #[.bool false, .slice none 0 0] 25 (0, 0))) := ⟨h6_⟩
     have n7_ : Aside0 (w26.heap[gb375]? = some (.cells #[.bool false, .slice none 0 0] 25 (0, 0))) := ⟨h7_⟩
     have n8_ : Aside0 (w26.heap[gb392]? = some (.cells #[.bool false, .slice none 0 0] 25 (0, 0))) := ⟨h8_⟩
     have n9_ : Aside0 (w.heap.size ≤ gb392) := ⟨h9_⟩
     have n10_ : Aside0 (w.heap.size ≤ gb392) := ⟨h10_⟩
     have n11_ : Aside0 (gb372 ≠ gb392) := ⟨h11_⟩
     have n12_ : Aside0 (gb392 ≠ gb372) := ⟨h12_⟩
     have n13_ : Aside0 (gb373 ≠ gb392) := ⟨h13_⟩
     have n14_ : Aside0 (gb392 ≠ gb373) := ⟨h14_⟩
     have n15_ : Aside0 (gb374 ≠ gb392) := ⟨h15_⟩
     have n16_ : Aside0 (gb392 ≠ gb374) := ⟨h16_⟩
     have n17_ : Aside0 (gb375 ≠ gb392) := ⟨h17_⟩
     have n18_ : Aside0 (gb392 ≠ gb375) := ⟨h18_⟩
     have n19_ : Aside0 (Below w.heap.size w w26) := ⟨h19_⟩
     clear HO380
     clear HO382
     clear BK372
     clear BK373
     clear BK374
     clear BK375
     clear HB
     clear h0_ h1_ h2_ h3_ h4_ h5_ h6_ h7_ h8_ h9_ h10_ h11_ h12_ h13_ h14_ h15_ h16_ h17_ h18_ h19_
     have HO380 := n0_
     have HO382 := n1_
     have HO386 := n2_
     have HO390 := n3_
     have BK372 := n4_
     have BK373 := n5_
     have BK374 := n6_
     have BK375 := n7_
     have BK392 := n8_
     have GW392 := n9_
     have GE392 := n10_
     have NB372_392 := n11_
     have NB392_372 := n12_
     have NB373_392 := n13_
     have NB392_373 := n14_
     have NB374_392 := n15_
     have NB392_374 := n16_
     have NB375_392 := n17_
     have NB392_375 := n18_
     have HB := n19_
     clear n0_ n1_ n2_ n3_ n4_ n5_ n6_ n7_ n8_ n9_ n10_ n11_ n12_ n13_ n14_ n15_ n16_ n17_ n18_ n19_
     have hHeld : w26.cell? ⟨gb372, 0, none⟩ = some (.bool a0_0) ∧ w26.cell? ⟨gb372, 1, none⟩ = some (.slice A0_1 l0_1.length c0_1) ∧ w26.cell? ⟨gb373, 0, none⟩ = some (.bool a1_0) ∧ w26.cell? ⟨gb373, 1, none⟩ = some (.slice A1_1 l1_1.length c1_1) := hS_
     refine norm_ (a' := ?_) ?_ ?_
     rotate_left
     ·
      simp only [putAll, Act.put, sI_, s0_, s1_]
      rfl
     refine one_ (i := 11) (N := some 10) #[true, true, true, true, true, true, true, true, true, true, true, true, true, false, false] rfl rfl (one_of HT_.out (by kernel_rfl)) (by decide) (fun K hK => ?_)
     refine box_step ?hg (N := 10) ?hd (cs := #[.bool false, .slice none 0 0]) (t := 25) ?hr ?_; (case hd => rfl); (case hg => rfl); (case hr => (go_simp; done))
     intro gb391 hg w27 hbox hb
     replace HO380 := am (Kd.R_below HO380.out hb)
     replace HO382 := am (Kd.R_below HO382.out hb)
     replace HO386 := am (Kd.R_below HO386.out hb)
     replace HO390 := am (Kd.R_below HO390.out hb)
     have BK391 := am hbox
     have GW391 := am (gel hg HB.out)
     have GE391 := am (gel hg HB.out)
     replace HB := am (below_step HB.out hb)
     have NB372_391 := am (nel hg BK372.out)
     have NB391_372 := am (ner hg BK372.out)
     replace BK372 := am (blk_below BK372.out hb)
     have NB373_391 := am (nel hg BK373.out)
     have NB391_373 := am (ner hg BK373.out)
     replace BK373 := am (blk_below BK373.out hb)
     have NB374_391 := am (nel hg BK374.out)
     have NB391_374 := am (ner hg BK374.out)
     replace BK374 := am (blk_below BK374.out hb)
     have NB375_391 := am (nel hg BK375.out)
     have NB391_375 := am (ner hg BK375.out)
     replace BK375 := am (blk_below BK375.out hb)
     have NB392_391 := am (nel hg BK392.out)
     have NB391_392 := am (ner hg BK392.out)
     replace BK392 := am (blk_below BK392.out hb)
     clear hb hbox hg
     refine hK.out _ _ ⟨(blk_cell BK372.out 0).trans rfl, (blk_cell BK372.out 1).trans rfl, (blk_cell BK373.out 0).trans rfl, (blk_cell BK373.out 1).trans rfl⟩ (fun hHeld => ?_)
     clear hK K
     refine norm_ (a' := ?_) ?_ ?_
     rotate_left
     ·
      show Act.put _ (some 10) _ = _
      simp only [Act.put, sI_, s0_, s1_, i64_w, i32_w]
      rfl
     exact norm_ (by (simp only [putAll, Act.put, sI_, s0_, s1_]; done)) (hJ6_10_11_12 (v385, v389, gb391, gb392) _ ⟨hHeld, HO380.out, HO382.out, HO386.out, HO390.out, BK372.out, BK373.out, BK374.out, BK375.out, BK391.out, BK392.out, GW391.out, GE391.out, NB372_391.out, NB391_372.out, NB373_391.out, NB391_373.out, NB374_391.out, NB391_374.out, NB375_391.out, NB391_375.out, NB392_391.out, NB391_392.out, GW392.out, GE392.out, NB372_392.out, NB392_372.out, NB373_392.out, NB392_373.out, NB374_392.out, NB392_374.out, NB375_392.out, NB392_375.out, HB.out⟩)
   ·
    skip
    rintro ⟨v385, v389, gb391⟩ w26 ⟨hS_, h0_, h1_, h2_, h3_, h4_, h5_, h6_, h7_, h8_, h9_, h10_, h11_, h12_, h13_, h14_, h15_, h16_, h17_, h18_, h19_⟩
    have n0_ : Aside0 (Kd.R (Kd.int .u32) 78 w26 w.heap.size (fun k_ => some k_ ≠ (.slice Ao21 t377.length co21 : Value).ownBlock ∧ some k_ ≠ (v385 : Value).ownBlock ∧ some k_ ≠ (v389 : Value).ownBlock) (.slice Ao20 t376.length co20) t376) := ⟨h0_⟩
    have n1_ : Aside0 (Kd.R (Kd.int .u32) 78 w26 w.heap.size (fun k_ => some k_ ≠ (.slice Ao20 t376.length co20 : Value).ownBlock ∧ some k_ ≠ (v385 : Value).ownBlock ∧ some k_ ≠ (v389 : Value).ownBlock) (.slice Ao21 t377.length co21) t377) := ⟨h1_⟩
    have n2_ : Aside0 (Kd.R (Kd.int .u32) 78 w26 w.heap.size (fun k_ => some k_ ≠ (.slice Ao20 t376.length co20 : Value).ownBlock ∧ some k_ ≠ (.slice Ao21 t377.length co21 : Value).ownBlock ∧ some k_ ≠ (v389 : Value).ownBlock) v385 t384) := ⟨h2_⟩
    have n3_ : Aside0 (Kd.R (Kd.int .u32) 78 w26 w.heap.size (fun k_ => some k_ ≠ (.slice Ao20 t376.length co20 : Value).ownBlock ∧ some k_ ≠ (.slice Ao21 t377.length co21 : Value).ownBlock ∧ some k_ ≠ (v385 : Value).ownBlock) v389 t388) := ⟨h3_⟩
    have n4_ : Aside0 (w26.heap[gb372]? = some (.cells #[.bool a0_0, .slice A0_1 l0_1.length c0_1] 25 (0, 0))) := ⟨h4_⟩
    have n5_ : Aside0 (w26.heap[gb373]? = some (.cells #[.bool a1_0, .slice A1_1 l1_1.length c1_1] 25 (0, 0))) := ⟨h5_⟩
    have n6_ : Aside0 (w26.heap[gb374]? = some (.cells #[.bool false, .slice none 0 0] 25 (0, 0))) := ⟨h6_⟩
    have n7_ : Aside0 (w26.heap[gb375]? = some (.cells #[.bool false, .slice none 0 0] 25 (0, 0))) := ⟨h7_⟩
    have n8_ : Aside0 (w26.heap[gb391]? = some (.cells #[.bool false, .slice none 0 0] 25 (0, 0))) := ⟨h8_⟩
    have n9_ : Aside0 (w.heap.size ≤ gb391) := ⟨h9_⟩
    have n10_ : Aside0 (w.heap.size ≤ gb391) := ⟨h10_⟩
    have n11_ : Aside0 (gb372 ≠ gb391) := ⟨h11_⟩
    have n12_ : Aside0 (gb391 ≠ gb372) := ⟨h12_⟩
    have n13_ : Aside0 (gb373 ≠ gb391) := ⟨h13_⟩
    have n14_ : Aside0 (gb391 ≠ gb373) := ⟨h14_⟩
    have n15_ : Aside0 (gb374 ≠ gb391) := ⟨h15_⟩
    have n16_ : Aside0 (gb391 ≠ gb374) := ⟨h16_⟩
    have n17_ : Aside0 (gb375 ≠ gb391) := ⟨h17_⟩
    have n18_ : Aside0 (gb391 ≠ gb375) := ⟨h18_⟩
    have n19_ : Aside0 (Below w.heap.size w w26) := ⟨h19_⟩
    clear HO380
    clear HO382
    clear BK372
    clear BK373
    clear BK374
    clear BK375
    clear HB
    clear h0_ h1_ h2_ h3_ h4_ h5_ h6_ h7_ h8_ h9_ h10_ h11_ h12_ h13_ h14_ h15_ h16_ h17_ h18_ h19_
    have HO380 := n0_
    have HO382 := n1_
    have HO386 := n2_
    have HO390 := n3_
    have BK372 := n4_
    have BK373 := n5_
    have BK374 := n6_
    have BK375 := n7_
    have BK391 := n8_
    have GW391 := n9_
    have GE391 := n10_
    have NB372_391 := n11_
    have NB391_372 := n12_
    have NB373_391 := n13_
    have NB391_373 := n14_
    have NB374_391 := n15_
    have NB391_374 := n16_
    have NB375_391 := n17_
    have NB391_375 := n18_
    have HB := n19_
    clear n0_ n1_ n2_ n3_ n4_ n5_ n6_ n7_ n8_ n9_ n10_ n11_ n12_ n13_ n14_ n15_ n16_ n17_ n18_ n19_
    have hHeld : w26.cell? ⟨gb372, 0, none⟩ = some (.bool a0_0) ∧ w26.cell? ⟨gb372, 1, none⟩ = some (.slice A0_1 l0_1.length c0_1) ∧ w26.cell? ⟨gb373, 0, none⟩ = some (.bool a1_0) ∧ w26.cell? ⟨gb373, 1, none⟩ = some (.slice A1_1 l1_1.length c1_1) := hS_
    refine norm_ (a' := ?_) ?_ ?_
    rotate_left
    ·
     simp only [putAll, Act.put, sI_, s0_, s1_]
     rfl
    refine one_ (i := 12) (N := some 11) #[true, true, true, true, true, true, true, true, true, true, true, true, true, false, false] rfl rfl (one_of HT_.out (by kernel_rfl)) (by decide) (fun K hK => ?_)
    refine box_step ?hg (N := 11) ?hd (cs := #[.bool false, .slice none 0 0]) (t := 25) ?hr ?_; (case hd => rfl); (case hg => rfl); (case hr => (go_simp; done))
    intro gb392 hg w27 hbox hb
    replace HO380 := am (Kd.R_below HO380.out hb)
    replace HO382 := am (Kd.R_below HO382.out hb)
    replace HO386 := am (Kd.R_below HO386.out hb)
    replace HO390 := am (Kd.R_below HO390.out hb)
    have BK392 := am hbox
    have GW392 := am (gel hg HB.out)
    have GE392 := am (gel hg HB.out)
    replace HB := am (below_step HB.out hb)
    have NB372_392 := am (nel hg BK372.out)
    have NB392_372 := am (ner hg BK372.out)
    replace BK372 := am (blk_below BK372.out hb)
    have NB373_392 := am (nel hg BK373.out)
    have NB392_373 := am (ner hg BK373.out)
    replace BK373 := am (blk_below BK373.out hb)
    have NB374_392 := am (nel hg BK374.out)
    have NB392_374 := am (ner hg BK374.out)
    replace BK374 := am (blk_below BK374.out hb)
    have NB375_392 := am (nel hg BK375.out)
    have NB392_375 := am (ner hg BK375.out)
    replace BK375 := am (blk_below BK375.out hb)
    have NB391_392 := am (nel hg BK391.out)
    have NB392_391 := am (ner hg BK391.out)
    replace BK391 := am (blk_below BK391.out hb)
    clear hb hbox hg
    refine hK.out _ _ ⟨(blk_cell BK372.out 0).trans rfl, (blk_cell BK372.out 1).trans rfl, (blk_cell BK373.out 0).trans rfl, (blk_cell BK373.out 1).trans rfl⟩ (fun hHeld => ?_)
    clear hK K
    refine norm_ (a' := ?_) ?_ ?_
    rotate_left
    ·
     show Act.put _ (some 11) _ = _
     simp only [Act.put, sI_, s0_, s1_, i64_w, i32_w]
     rfl
    exact norm_ (by (simp only [putAll, Act.put, sI_, s0_, s1_]; done)) (hJ6_10_11_12 (v385, v389, gb391, gb392) _ ⟨hHeld, HO380.out, HO382.out, HO386.out, HO390.out, BK372.out, BK373.out, BK374.out, BK375.out, BK391.out, BK392.out, GW391.out, GE391.out, NB372_391.out, NB391_372.out, NB373_391.out, NB391_373.out, NB374_391.out, NB391_374.out, NB375_391.out, NB391_375.out, NB392_391.out, NB391_392.out, GW392.out, GE392.out, NB372_392.out, NB392_372.out, NB373_392.out, NB392_373.out, NB374_392.out, NB392_374.out, NB375_392.out, NB392_375.out, HB.out⟩)
  rintro ⟨v385, v389, gb391, gb392⟩ w27 ⟨hS_, h0_, h1_, h2_, h3_, h4_, h5_, h6_, h7_, h8_, h9_, h10_, h11_, h12_, h13_, h14_, h15_, h16_, h17_, h18_, h19_, h20_, h21_, h22_, h23_, h24_, h25_, h26_, h27_, h28_, h29_, h30_, h31_, h32_⟩
  have n0_ : Aside0 (Kd.R (Kd.int .u32) 78 w27 w.heap.size (fun k_ => some k_ ≠ (.slice Ao21 t377.length co21 : Value).ownBlock ∧ some k_ ≠ (v385 : Value).ownBlock ∧ some k_ ≠ (v389 : Value).ownBlock) (.slice Ao20 t376.length co20) t376) := ⟨h0_⟩
  have n1_ : Aside0 (Kd.R (Kd.int .u32) 78 w27 w.heap.size (fun k_ => some k_ ≠ (.slice Ao20 t376.length co20 : Value).ownBlock ∧ some k_ ≠ (v385 : Value).ownBlock ∧ some k_ ≠ (v389 : Value).ownBlock) (.slice Ao21 t377.length co21) t377) := ⟨h1_⟩
  have n2_ : Aside0 (Kd.R (Kd.int .u32) 78 w27 w.heap.size (fun k_ => some k_ ≠ (.slice Ao20 t376.length co20 : Value).ownBlock ∧ some k_ ≠ (.slice Ao21 t377.length co21 : Value).ownBlock ∧ some k_ ≠ (v389 : Value).ownBlock) v385 t384) := ⟨h2_⟩
  have n3_ : Aside0 (Kd.R (Kd.int .u32) 78 w27 w.heap.size (fun k_ => some k_ ≠ (.slice Ao20 t376.length co20 : Value).ownBlock ∧ some k_ ≠ (.slice Ao21 t377.length co21 : Value).ownBlock ∧ some k_ ≠ (v385 : Value).ownBlock) v389 t388) := ⟨h3_⟩
  have n4_ : Aside0 (w27.heap[gb372]? = some (.cells #[.bool a0_0, .slice A0_1 l0_1.length c0_1] 25 (0, 0))) := ⟨h4_⟩
  have n5_ : Aside0 (w27.heap[gb373]? = some (.cells #[.bool a1_0, .slice A1_1 l1_1.length c1_1] 25 (0, 0))) := ⟨h5_⟩
  have n6_ : Aside0 (w27.heap[gb374]? = some (.cells #[.bool false, .slice none 0 0] 25 (0, 0))) := ⟨h6_⟩
  have n7_ : Aside0 (w27.heap[gb375]? = some (.cells #[.bool false, .slice none 0 0] 25 (0, 0))) := ⟨h7_⟩
  have n8_ : Aside0 (w27.heap[gb391]? = some (.cells #[.bool false, .slice none 0 0] 25 (0, 0))) := ⟨h8_⟩
  have n9_ : Aside0 (w27.heap[gb392]? = some (.cells #[.bool false, .slice none 0 0] 25 (0, 0))) := ⟨h9_⟩
  have n10_ : Aside0 (w.heap.size ≤ gb391) := ⟨h10_⟩
  have n11_ : Aside0 (w.heap.size ≤ gb391) := ⟨h11_⟩
  have n12_ : Aside0 (gb372 ≠ gb391) := ⟨h12_⟩
  have n13_ : Aside0 (gb391 ≠ gb372) := ⟨h13_⟩
  have n14_ : Aside0 (gb373 ≠ gb391) := ⟨h14_⟩
  have n15_ : Aside0 (gb391 ≠ gb373) := ⟨h15_⟩
  have n16_ : Aside0 (gb374 ≠ gb391) := ⟨h16_⟩
  have n17_ : Aside0 (gb391 ≠ gb374) := ⟨h17_⟩
  have n18_ : Aside0 (gb375 ≠ gb391) := ⟨h18_⟩
  have n19_ : Aside0 (gb391 ≠ gb375) := ⟨h19_⟩
  have n20_ : Aside0 (gb392 ≠ gb391) := ⟨h20_⟩
  have n21_ : Aside0 (gb391 ≠ gb392) := ⟨h21_⟩
  have n22_ : Aside0 (w.heap.size ≤ gb392) := ⟨h22_⟩
  have n23_ : Aside0 (w.heap.size ≤ gb392) := ⟨h23_⟩
  have n24_ : Aside0 (gb372 ≠ gb392) := ⟨h24_⟩
  have n25_ : Aside0 (gb392 ≠ gb372) := ⟨h25_⟩
  have n26_ : Aside0 (gb373 ≠ gb392) := ⟨h26_⟩
  have n27_ : Aside0 (gb392 ≠ gb373) := ⟨h27_⟩
  have n28_ : Aside0 (gb374 ≠ gb392) := ⟨h28_⟩
  have n29_ : Aside0 (gb392 ≠ gb374) := ⟨h29_⟩
  have n30_ : Aside0 (gb375 ≠ gb392) := ⟨h30_⟩
  have n31_ : Aside0 (gb392 ≠ gb375) := ⟨h31_⟩
  have n32_ : Aside0 (Below w.heap.size w w27) := ⟨h32_⟩
  clear HO380
  clear HO382
  clear BK372
  clear BK373
  clear BK374
  clear BK375
  clear HB
  clear h0_ h1_ h2_ h3_ h4_ h5_ h6_ h7_ h8_ h9_ h10_ h11_ h12_ h13_ h14_ h15_ h16_ h17_ h18_ h19_ h20_ h21_ h22_ h23_ h24_ h25_ h26_ h27_ h28_ h29_ h30_ h31_ h32_
  have HO380 := n0_
  have HO382 := n1_
  have HO386 := n2_
  have HO390 := n3_
  have BK372 := n4_
  have BK373 := n5_
  have BK374 := n6_
  have BK375 := n7_
  have BK391 := n8_
  have BK392 := n9_
  have GW391 := n10_
  have GE391 := n11_
  have NB372_391 := n12_
  have NB391_372 := n13_
  have NB373_391 := n14_
  have NB391_373 := n15_
  have NB374_391 := n16_
  have NB391_374 := n17_
  have NB375_391 := n18_
  have NB391_375 := n19_
  have NB392_391 := n20_
  have NB391_392 := n21_
  have GW392 := n22_
  have GE392 := n23_
  have NB372_392 := n24_
  have NB392_372 := n25_
  have NB373_392 := n26_
  have NB392_373 := n27_
  have NB374_392 := n28_
  have NB392_374 := n29_
  have NB375_392 := n30_
  have NB392_375 := n31_
  have HB := n32_
  clear n0_ n1_ n2_ n3_ n4_ n5_ n6_ n7_ n8_ n9_ n10_ n11_ n12_ n13_ n14_ n15_ n16_ n17_ n18_ n19_ n20_ n21_ n22_ n23_ n24_ n25_ n26_ n27_ n28_ n29_ n30_ n31_ n32_
  have hHeld : w27.cell? ⟨gb372, 0, none⟩ = some (.bool a0_0) ∧ w27.cell? ⟨gb372, 1, none⟩ = some (.slice A0_1 l0_1.length c0_1) ∧ w27.cell? ⟨gb373, 0, none⟩ = some (.bool a1_0) ∧ w27.cell? ⟨gb373, 1, none⟩ = some (.slice A1_1 l1_1.length c1_1) := hS_
  obtain ⟨Ao29, co29, eo29⟩ := Kd.R_slice HO386.out
  (subst eo29)
  obtain ⟨Ao32, co32, eo32⟩ := Kd.R_slice HO390.out
  (subst eo32)
  refine norm_ (a' := ?_) ?_ ?_
  rotate_left
  ·
   simp only [putAll, Act.put, sI_, s0_, s1_]
   rfl
  refine one_ (i := 13) (N := none) #[true, true, true, true, true, true, true, true, true, true, true, true, true, true, false] rfl rfl (one_of HT_.out (by kernel_rfl)) (by decide) (fun K hK => ?_)
  have hs28 : w27.cell? ⟨gb391, 0, none⟩ = some (.bool false) := (blk_cell BK391.out 0).trans rfl
  have hfs28 := blk_frozen BK391.out 0
  have hns28_0 := NB372_391.out
  have hns28_1 := NB373_391.out
  have hns28_2 := NB374_391.out
  have hns28_3 := NB375_391.out
  have hns28_5 := NB392_391.out
  have hms28_0 := NB391_372.out
  have hms28_1 := NB391_373.out
  have hms28_2 := NB391_374.out
  have hms28_3 := NB391_375.out
  have hms28_5 := NB391_392.out
  have hs30 : w27.cell? ⟨gb391, 1, none⟩ = some (.slice none 0 0) := (blk_cell BK391.out 1).trans rfl
  have hfs30 := blk_frozen BK391.out 1
  have hns30_0 := NB372_391.out
  have hns30_1 := NB373_391.out
  have hns30_2 := NB374_391.out
  have hns30_3 := NB375_391.out
  have hns30_5 := NB392_391.out
  have hms30_0 := NB391_372.out
  have hms30_1 := NB391_373.out
  have hms30_2 := NB391_374.out
  have hms30_3 := NB391_375.out
  have hms30_5 := NB391_392.out
  refine skip_ (w1 := ?_) (by rfl) rfl ?_ ?_
  rotate_left
  ·
   go_simp
   rfl
  refine hK.out _ _ ⟨((cell_far (p := ⟨gb391, _, none⟩) NB372_391.out _).trans (((cell_far (p := ⟨gb391, _, none⟩) NB372_391.out _).trans (hHeld.1)))), ((cell_far (p := ⟨gb391, _, none⟩) NB372_391.out _).trans (((cell_far (p := ⟨gb391, _, none⟩) NB372_391.out _).trans (hHeld.2.1)))), ((cell_far (p := ⟨gb391, _, none⟩) NB373_391.out _).trans (((cell_far (p := ⟨gb391, _, none⟩) NB373_391.out _).trans (hHeld.2.2.1)))), ((cell_far (p := ⟨gb391, _, none⟩) NB373_391.out _).trans (((cell_far (p := ⟨gb391, _, none⟩) NB373_391.out _).trans (hHeld.2.2.2))))⟩ (fun hHeld => ?_)
  clear hK K
  refine one_ (i := 14) (N := none) #[true, true, true, true, true, true, true, true, true, true, true, true, true, true, true] rfl rfl (one_of HT_.out (by kernel_rfl)) (by decide) (fun K hK => ?_)
  have hs31 : w27.cell? ⟨gb392, 0, none⟩ = some (.bool false) := (blk_cell BK392.out 0).trans rfl
  have hfs31 := blk_frozen BK392.out 0
  have hns31_0 := NB372_392.out
  have hns31_1 := NB373_392.out
  have hns31_2 := NB374_392.out
  have hns31_3 := NB375_392.out
  have hns31_4 := NB391_392.out
  have hms31_0 := NB392_372.out
  have hms31_1 := NB392_373.out
  have hms31_2 := NB392_374.out
  have hms31_3 := NB392_375.out
  have hms31_4 := NB392_391.out
  have hs33 : w27.cell? ⟨gb392, 1, none⟩ = some (.slice none 0 0) := (blk_cell BK392.out 1).trans rfl
  have hfs33 := blk_frozen BK392.out 1
  have hns33_0 := NB372_392.out
  have hns33_1 := NB373_392.out
  have hns33_2 := NB374_392.out
  have hns33_3 := NB375_392.out
  have hns33_4 := NB391_392.out
  have hms33_0 := NB392_372.out
  have hms33_1 := NB392_373.out
  have hms33_2 := NB392_374.out
  have hms33_3 := NB392_375.out
  have hms33_4 := NB392_391.out
  refine skip_ (w1 := ?_) (by rfl) rfl ?_ ?_
  rotate_left
  ·
   go_simp
   rfl
  refine hK.out _ _ ⟨((cell_far (p := ⟨gb392, _, none⟩) NB372_392.out _).trans (((cell_far (p := ⟨gb392, _, none⟩) NB372_392.out _).trans (hHeld.1)))), ((cell_far (p := ⟨gb392, _, none⟩) NB372_392.out _).trans (((cell_far (p := ⟨gb392, _, none⟩) NB372_392.out _).trans (hHeld.2.1)))), ((cell_far (p := ⟨gb392, _, none⟩) NB373_392.out _).trans (((cell_far (p := ⟨gb392, _, none⟩) NB373_392.out _).trans (hHeld.2.2.1)))), ((cell_far (p := ⟨gb392, _, none⟩) NB373_392.out _).trans (((cell_far (p := ⟨gb392, _, none⟩) NB373_392.out _).trans (hHeld.2.2.2))))⟩ (fun hHeld => ?_)
  clear hK K
  refine done_ (done_of HT_.out (by kernel_rfl)) ?_
  go_upto_region 5 with (fail)
  go_cut [47] (fun v47 wc => ∃ (kq : Nat) (x47_6 : Bool), v47 = .bool x47_6 ∧ Aside0 (whole_Floor.j0 kq x47_6 a1_0 l1_1 t383 t384 t387 t388 = some (r1, r2, r3, r4, r5)) ∧ Aside0 (kq ≤ k) ∧ Aside0 (Kd.R (Kd.int .u32) 78 wc w.heap.size (fun k_ => some k_ ≠ ((.slice Ao32 t388.length co32) : Value).ownBlock) (.slice Ao29 t384.length co29) t384) ∧ Aside0 (Kd.R (Kd.int .u32) 78 wc w.heap.size (fun k_ => some k_ ≠ ((.slice Ao29 t384.length co29) : Value).ownBlock) (.slice Ao32 t388.length co32) t388) ∧ Aside0 (wc.heap[gb372]? = some (.cells #[.bool a0_0, (.slice A0_1 l0_1.length c0_1)] 25 (0, 0))) ∧ Aside0 (wc.heap[gb373]? = some (.cells #[.bool a1_0, (.slice A1_1 l1_1.length c1_1)] 25 (0, 0))) ∧ Aside0 (wc.heap[gb374]? = some (.cells #[.bool false, (.slice none 0 0)] 25 (0, 0))) ∧ Aside0 (wc.heap[gb375]? = some (.cells #[.bool false, (.slice none 0 0)] 25 (0, 0))) ∧ Aside0 (wc.heap[gb391]? = some (.cells #[.bool t383, (.slice Ao29 t384.length co29)] 25 (0, 0))) ∧ Aside0 (wc.heap[gb392]? = some (.cells #[.bool t387, (.slice Ao32 t388.length co32)] 25 (0, 0))) ∧ Aside0 (Below w.heap.size w wc))
  case first =>
   have H := HC7.out
   clear HC7
   by_cases c34 : (a0_0 != a1_0) = true
   ·
    rw [if_pos c34] at H
    have c34b0 : (a0_0 != a1_0) = true := c34
    (try (have c34b1 : decide (a0_0 = a1_0) = false := by simpa using c34))
    (try (have c34b2 : (a0_0 == a1_0) = false := by simpa using c34))
    (try (have c34b3 : ¬ (a0_0 = a1_0) := by simpa using c34))
    clear c34
    (skip)
    have H' := am H
    clear H
    have hnb35 := NB372_373.out
    have hnc35 := NB373_372.out
    have hnb36 := NB372_374.out
    have hnc36 := NB374_372.out
    have hnb37 := NB372_375.out
    have hnc37 := NB375_372.out
    have hnb38 := NB372_391.out
    have hnc38 := NB391_372.out
    have hnb39 := NB372_392.out
    have hnc39 := NB392_372.out
    have hcz40_0 : w27.cell? ⟨gb372, 0, none⟩ = some (.bool a0_0) := (blk_cell BK372.out 0).trans rfl
    have hcz40_1 : w27.cell? ⟨gb372, 1, none⟩ = some (.slice A0_1 l0_1.length c0_1) := (blk_cell BK372.out 1).trans rfl
    have hfz40_0 := blk_frozen BK372.out 0
    have hfz40_1 := blk_frozen BK372.out 1
    have hnb41 := NB373_374.out
    have hnc41 := NB374_373.out
    have hnb42 := NB373_375.out
    have hnc42 := NB375_373.out
    have hnb43 := NB373_391.out
    have hnc43 := NB391_373.out
    have hnb44 := NB373_392.out
    have hnc44 := NB392_373.out
    have hcz45_0 : w27.cell? ⟨gb373, 0, none⟩ = some (.bool a1_0) := (blk_cell BK373.out 0).trans rfl
    have hcz45_1 : w27.cell? ⟨gb373, 1, none⟩ = some (.slice A1_1 l1_1.length c1_1) := (blk_cell BK373.out 1).trans rfl
    have hfz45_0 := blk_frozen BK373.out 0
    have hfz45_1 := blk_frozen BK373.out 1
    have hnb46 := NB392_374.out
    have hnc46 := NB374_392.out
    have hnb47 := NB392_375.out
    have hnc47 := NB375_392.out
    have hnb48 := NB392_391.out
    have hnc48 := NB391_392.out
    have hcz49_0 : w27.cell? ⟨gb392, 0, none⟩ = some (.bool false) := (blk_cell BK392.out 0).trans rfl
    have hcz49_1 : w27.cell? ⟨gb392, 1, none⟩ = some (.slice none 0 0) := (blk_cell BK392.out 1).trans rfl
    have hfz49_0 := blk_frozen BK392.out 0
    have hfz49_1 := blk_frozen BK392.out 1
    go_wp2
    go_meet
    case rel => exact ⟨_, (decide ((t388.length : Int) > 0)), (by (simp; done)), H', ⟨by omega⟩, ⟨by exact Kd.R_mono (Kd.R_far (p := ⟨gb392, 1, none⟩) (Kd.R_far (p := ⟨gb392, 0, none⟩) (Kd.R_far (p := ⟨gb391, 1, none⟩) (Kd.R_far (p := ⟨gb391, 0, none⟩) (Kd.R_types (Kd.R_types HO386.out BK391.out (by decide)) BK392.out (by decide)) (fun _ hk => hk.1.2) (.bool t383)) (fun _ hk => hk.1.2) (.slice Ao29 t384.length co29)) (fun _ hk => hk.2) (.bool t387)) (fun _ hk => hk.2) (.slice Ao32 t388.length co32)) (fun _ hk => hk.1.1.2.2)⟩, ⟨by exact Kd.R_mono (Kd.R_far (p := ⟨gb392, 1, none⟩) (Kd.R_far (p := ⟨gb392, 0, none⟩) (Kd.R_far (p := ⟨gb391, 1, none⟩) (Kd.R_far (p := ⟨gb391, 0, none⟩) (Kd.R_types (Kd.R_types HO390.out BK391.out (by decide)) BK392.out (by decide)) (fun _ hk => hk.1.2) (.bool t383)) (fun _ hk => hk.1.2) (.slice Ao29 t384.length co29)) (fun _ hk => hk.2) (.bool t387)) (fun _ hk => hk.2) (.slice Ao32 t388.length co32)) (fun _ hk => hk.1.1.2.2)⟩, ⟨by refine blk_far ?_ NB372_392.out _; refine blk_far ?_ NB372_392.out _; refine blk_far ?_ NB372_391.out _; refine blk_far ?_ NB372_391.out _; exact BK372.out⟩, ⟨by refine blk_far ?_ NB373_392.out _; refine blk_far ?_ NB373_392.out _; refine blk_far ?_ NB373_391.out _; refine blk_far ?_ NB373_391.out _; exact BK373.out⟩, ⟨by refine blk_far ?_ NB374_392.out _; refine blk_far ?_ NB374_392.out _; refine blk_far ?_ NB374_391.out _; refine blk_far ?_ NB374_391.out _; exact BK374.out⟩, ⟨by refine blk_far ?_ NB375_392.out _; refine blk_far ?_ NB375_392.out _; refine blk_far ?_ NB375_391.out _; refine blk_far ?_ NB375_391.out _; exact BK375.out⟩, ⟨by refine blk_far ?_ NB391_392.out _; refine blk_far ?_ NB391_392.out _; refine blk_put (cs := #[.bool t383, .slice none 0 0]) ?_ 1 _ rfl; refine blk_put (cs := #[.bool false, .slice none 0 0]) ?_ 0 _ rfl; exact BK391.out⟩, ⟨by refine blk_put (cs := #[.bool t387, .slice none 0 0]) ?_ 1 _ rfl; refine blk_put (cs := #[.bool false, .slice none 0 0]) ?_ 0 _ rfl; refine blk_far ?_ NB392_391.out _; refine blk_far ?_ NB392_391.out _; exact BK392.out⟩, ⟨by repeat ((with_reducible first | exact HB.out | refine below_set ?_ GE391.out | refine below_set ?_ GE392.out))⟩⟩
   ·
    rw [if_neg c34] at H
    have c34b0 : (a0_0 != a1_0) = false := by simpa using c34
    (try (have c34b1 : decide (a0_0 = a1_0) = true := by simpa using c34))
    (try (have c34b2 : (a0_0 == a1_0) = true := by simpa using c34))
    clear c34
    (skip)
    have H' := am H
    clear H
    have hnb50 := NB372_373.out
    have hnc50 := NB373_372.out
    have hnb51 := NB372_374.out
    have hnc51 := NB374_372.out
    have hnb52 := NB372_375.out
    have hnc52 := NB375_372.out
    have hnb53 := NB372_391.out
    have hnc53 := NB391_372.out
    have hnb54 := NB372_392.out
    have hnc54 := NB392_372.out
    have hcz55_0 : w27.cell? ⟨gb372, 0, none⟩ = some (.bool a0_0) := (blk_cell BK372.out 0).trans rfl
    have hcz55_1 : w27.cell? ⟨gb372, 1, none⟩ = some (.slice A0_1 l0_1.length c0_1) := (blk_cell BK372.out 1).trans rfl
    have hfz55_0 := blk_frozen BK372.out 0
    have hfz55_1 := blk_frozen BK372.out 1
    have hnb56 := NB373_374.out
    have hnc56 := NB374_373.out
    have hnb57 := NB373_375.out
    have hnc57 := NB375_373.out
    have hnb58 := NB373_391.out
    have hnc58 := NB391_373.out
    have hnb59 := NB373_392.out
    have hnc59 := NB392_373.out
    have hcz60_0 : w27.cell? ⟨gb373, 0, none⟩ = some (.bool a1_0) := (blk_cell BK373.out 0).trans rfl
    have hcz60_1 : w27.cell? ⟨gb373, 1, none⟩ = some (.slice A1_1 l1_1.length c1_1) := (blk_cell BK373.out 1).trans rfl
    have hfz60_0 := blk_frozen BK373.out 0
    have hfz60_1 := blk_frozen BK373.out 1
    go_wp2
    go_meet
    case rel => exact ⟨_, (false), (by rfl), H', ⟨by omega⟩, ⟨by exact Kd.R_mono (Kd.R_far (p := ⟨gb392, 1, none⟩) (Kd.R_far (p := ⟨gb392, 0, none⟩) (Kd.R_far (p := ⟨gb391, 1, none⟩) (Kd.R_far (p := ⟨gb391, 0, none⟩) (Kd.R_types (Kd.R_types HO386.out BK391.out (by decide)) BK392.out (by decide)) (fun _ hk => hk.1.2) (.bool t383)) (fun _ hk => hk.1.2) (.slice Ao29 t384.length co29)) (fun _ hk => hk.2) (.bool t387)) (fun _ hk => hk.2) (.slice Ao32 t388.length co32)) (fun _ hk => hk.1.1.2.2)⟩, ⟨by exact Kd.R_mono (Kd.R_far (p := ⟨gb392, 1, none⟩) (Kd.R_far (p := ⟨gb392, 0, none⟩) (Kd.R_far (p := ⟨gb391, 1, none⟩) (Kd.R_far (p := ⟨gb391, 0, none⟩) (Kd.R_types (Kd.R_types HO390.out BK391.out (by decide)) BK392.out (by decide)) (fun _ hk => hk.1.2) (.bool t383)) (fun _ hk => hk.1.2) (.slice Ao29 t384.length co29)) (fun _ hk => hk.2) (.bool t387)) (fun _ hk => hk.2) (.slice Ao32 t388.length co32)) (fun _ hk => hk.1.1.2.2)⟩, ⟨by refine blk_far ?_ NB372_392.out _; refine blk_far ?_ NB372_392.out _; refine blk_far ?_ NB372_391.out _; refine blk_far ?_ NB372_391.out _; exact BK372.out⟩, ⟨by refine blk_far ?_ NB373_392.out _; refine blk_far ?_ NB373_392.out _; refine blk_far ?_ NB373_391.out _; refine blk_far ?_ NB373_391.out _; exact BK373.out⟩, ⟨by refine blk_far ?_ NB374_392.out _; refine blk_far ?_ NB374_392.out _; refine blk_far ?_ NB374_391.out _; refine blk_far ?_ NB374_391.out _; exact BK374.out⟩, ⟨by refine blk_far ?_ NB375_392.out _; refine blk_far ?_ NB375_392.out _; refine blk_far ?_ NB375_391.out _; refine blk_far ?_ NB375_391.out _; exact BK375.out⟩, ⟨by refine blk_far ?_ NB391_392.out _; refine blk_far ?_ NB391_392.out _; refine blk_put (cs := #[.bool t383, .slice none 0 0]) ?_ 1 _ rfl; refine blk_put (cs := #[.bool false, .slice none 0 0]) ?_ 0 _ rfl; exact BK391.out⟩, ⟨by refine blk_put (cs := #[.bool t387, .slice none 0 0]) ?_ 1 _ rfl; refine blk_put (cs := #[.bool false, .slice none 0 0]) ?_ 0 _ rfl; refine blk_far ?_ NB392_391.out _; refine blk_far ?_ NB392_391.out _; exact BK392.out⟩, ⟨by repeat ((with_reducible first | exact HB.out | refine below_set ?_ GE391.out | refine below_set ?_ GE392.out))⟩⟩
  case rest =>
   clear HC7
   obtain ⟨kq, x47_6, rfl, HA, HJ6, HO_392001, HO_393001, BK372, BK373, BK374, BK375, BK391, BK392, HB⟩ := hcut
   cases kq with
   | zero => exact absurd HA.out (by simp [whole_Floor.j0])
   | succ kj6 =>
    have H := HA.out
    clear HA
    simp only [whole_Floor.j0] at H
    by_cases c61 : x47_6 = true
    ·
     subst c61
     rw [if_pos rfl] at H
     obtain ⟨y393, hy393⟩ : ∃ y_ : List Int, y_ = (([1] : List Int)) := ⟨_, rfl⟩
     replace H : ((whole_norm.f kj6 true y393).bind fun bt396 => ((whole_add.f kj6 t383 t384 bt396.1 bt396.2).bind fun bt400 => ((whole_add.f kj6 t387 t388 a1_0 l1_1).bind fun bt404 => (some (bt400.1, bt400.2, bt404.1, bt404.2, 0))))) = some (r1, r2, r3, r4, r5) := by (rw [hy393]; with_reducible exact H)
     have Ny393 := am hy393
     clear hy393
     obtain ⟨⟨t396, t397⟩, A62, H⟩ := bindE H
     dsimp only at H
     obtain ⟨⟨t400, t401⟩, A63, H⟩ := bindE H
     dsimp only at H
     obtain ⟨⟨t404, t405⟩, A64, H⟩ := bindE H
     dsimp only at H
     simp only [Option.some.injEq, Prod.mk.injEq] at H
     obtain ⟨rfl, rfl, rfl, rfl, rfl⟩ := H
     try go_wp2
     replace HO_392001 := am (Kd.R_drew HO_392001.out)
     replace HO_393001 := am (Kd.R_drew HO_393001.out)
     replace BK372 := am (blk_drew BK372.out)
     replace BK373 := am (blk_drew BK373.out)
     replace BK374 := am (blk_drew BK374.out)
     replace BK375 := am (blk_drew BK375.out)
     replace BK391 := am (blk_drew BK391.out)
     replace BK392 := am (blk_drew BK392.out)
     replace HB := am (below_drew1 HB.out)
     refine start_ (n := 9) (S := fun w' => w'.cell? ⟨gb391, 0, none⟩ = some (.bool t383) ∧ w'.cell? ⟨gb391, 1, none⟩ = some (.slice Ao29 t384.length co29) ∧ w'.cell? ⟨gb392, 0, none⟩ = some (.bool t387) ∧ w'.cell? ⟨gb392, 1, none⟩ = some (.slice Ao32 t388.length co32) ∧ w'.cell? ⟨gb373, 0, none⟩ = some (.bool a1_0) ∧ w'.cell? ⟨gb373, 1, none⟩ = some (.slice A1_1 l1_1.length c1_1)) (ds := [7, 8]) #[false, false, false, false, false, false, false, false, false] (by kernel_rfl) rfl rfl ⟨(blk_cell BK391.out 0).trans rfl, (blk_cell BK391.out 1).trans rfl, (blk_cell BK392.out 0).trans rfl, (blk_cell BK392.out 1).trans rfl, (blk_cell BK373.out 0).trans rfl, (blk_cell BK373.out 1).trans rfl⟩ (fun hHeld => ?_); refine with_tabW whole_Floor.tab6 whole_Floor.bits6 (fun HT_ HW_ => ?_)
     generalize wc.drew = w65 at HO_392001 HO_393001 BK372 BK373 BK374 BK375 BK391 BK392 HB hHeld ⊢
     refine take_ (i := 0) (N := some 48) (v := ?_) (a' := ?_) #[true, false, false, false, false, false, false, false, false] rfl rfl (take_ofW HT_.out HW_.out (by kernel_rfl)) (fun _ _ _ h => h) (Or.inl ⟨by rfl, ?_⟩) hHeld ?_ ?_
     rotate_left
     ·
      rintro w' ⟨s0, s1, s2, s3, s4, s5⟩
      go_simp
      with_reducible rfl
     rotate_left
     ·
      simp only [Act.put, sI_, s0_, s1_, i64_w, i32_w]
      rfl
     refine take_ (i := 4) (N := some 52) (v := ?_) (a' := ?_) #[true, false, false, false, true, false, false, false, false] rfl rfl (take_ofW HT_.out HW_.out (by kernel_rfl)) (fun _ _ _ h => h) (Or.inl ⟨by rfl, ?_⟩) hHeld ?_ ?_
     rotate_left
     ·
      rintro w' ⟨s0, s1, s2, s3, s4, s5⟩
      go_simp
      with_reducible rfl
     rotate_left
     ·
      simp only [Act.put, sI_, s0_, s1_, i64_w, i32_w]
      rfl
     refine take_ (i := 5) (N := some 53) (v := ?_) (a' := ?_) #[true, false, false, false, true, true, false, false, false] rfl rfl (take_ofW HT_.out HW_.out (by kernel_rfl)) (fun _ _ _ h => h) (Or.inl ⟨by rfl, ?_⟩) hHeld ?_ ?_
     rotate_left
     ·
      rintro w' ⟨s0, s1, s2, s3, s4, s5⟩
      go_simp
      with_reducible rfl
     rotate_left
     ·
      simp only [Act.put, sI_, s0_, s1_, i64_w, i32_w]
      rfl
     refine one_ (i := 1) (N := some 49) #[true, true, false, false, true, true, false, false, false] rfl rfl (one_of HT_.out (by kernel_rfl)) (by decide) (fun K hK => ?_)
     refine Kd.R_lit_step (Kd.int .u32) _ 78 ?hg (N := 49) ?hd (xs := ([1] : List Int)) (inner := [.int .u32 1]) (ok := fun _ => True) (okp := fun _ => True) ?hr ?hp (fun _ hk => hk) trivial (Below.refl _ _) (Nat.le_refl _) (by simp) ?_; (case hd => rfl); (case hg => rfl); (case hr => (go_simp; done)); (case hp => exact (Reps.one (show Kd.M (Kd.int .u32) _ _ _ 1 [.int .u32 1] from rfl) (Reps.none _ _)))
     intro v394 w66 ho67 hb hg_ hnew_
     clear hg_ hnew_
     (rw [← Ny393.out] at ho67)
     have HO395 := am (Kd.R_lower (Kd.R_new' (Kd.R_new' ho67 (Kd.R_lt HO_392001.out)) (Kd.R_lt HO_393001.out)) (below_size HB.out))
     replace HO_392001 := am (Kd.R_elder' HO_392001.out (Kd.R_base ho67) hb)
     replace HO_393001 := am (Kd.R_elder' HO_393001.out (Kd.R_base ho67) hb)
     replace BK372 := am (blk_below BK372.out hb)
     replace BK373 := am (blk_below BK373.out hb)
     replace BK374 := am (blk_below BK374.out hb)
     replace BK375 := am (blk_below BK375.out hb)
     replace BK391 := am (blk_below BK391.out hb)
     replace BK392 := am (blk_below BK392.out hb)
     replace HB := am (below_step HB.out hb)
     clear hb ho67
     obtain ⟨Ao68, co68, eo68⟩ := Kd.R_slice HO395.out
     (subst eo68)
     refine hK.out _ _ ⟨(blk_cell BK391.out 0).trans rfl, (blk_cell BK391.out 1).trans rfl, (blk_cell BK392.out 0).trans rfl, (blk_cell BK392.out 1).trans rfl, (blk_cell BK373.out 0).trans rfl, (blk_cell BK373.out 1).trans rfl⟩ (fun hHeld => ?_)
     clear hK K
     refine norm_ (a' := ?_) ?_ ?_
     rotate_left
     ·
      show Act.put _ (some 49) _ = _
      simp only [Act.put, sI_, s0_, s1_, i64_w, i32_w]
      rfl
     refine one_ (i := 2) (N := some 50) #[true, true, true, false, true, true, false, false, false] rfl rfl (one_of HT_.out (by kernel_rfl)) (by decide) (fun K hK => ?_)
     refine goes_ Try.func47 (by kernel_rfl) rfl #[.bool true, .slice Ao68 y393.length co68] (by rfl) rfl rfl (by (try simp only [List.map_toArray, List.map_cons, List.map_nil]); rfl) ?_
     with_reducible refine (whole_norm.calls kj6 true _ _ y393 t396 t397 _ ?side1 ?side2 A62.out).mono ?_
     (case side1 => exact (Kd.R_reads' HO395.out).2.2)
     (case side2 => exact (Kd.R_reads' HO395.out).2.1)
     rintro e w69 ⟨v398, rfl, ho0, hb⟩
     refine ⟨_, rfl, ?_⟩
     have HO399 := am (Kd.R_lower (Kd.R_new' (Kd.R_new' (Kd.R_new' ho0 (Kd.R_lt HO_392001.out)) (Kd.R_lt HO_393001.out)) (Kd.R_lt HO395.out)) (below_size HB.out))
     replace HO_392001 := am (Kd.R_elder' HO_392001.out (Kd.R_base ho0) hb)
     replace HO_393001 := am (Kd.R_elder' HO_393001.out (Kd.R_base ho0) hb)
     replace HO395 := am (Kd.R_elder' HO395.out (Kd.R_base ho0) hb)
     replace BK372 := am (blk_below BK372.out hb)
     replace BK373 := am (blk_below BK373.out hb)
     replace BK374 := am (blk_below BK374.out hb)
     replace BK375 := am (blk_below BK375.out hb)
     replace BK391 := am (blk_below BK391.out hb)
     replace BK392 := am (blk_below BK392.out hb)
     replace HB := am (below_step HB.out hb)
     try clear hb
     try clear ho0
     obtain ⟨Ao70, co70, eo70⟩ := Kd.R_slice HO399.out
     (subst eo70)
     refine hK.out _ _ ⟨(blk_cell BK391.out 0).trans rfl, (blk_cell BK391.out 1).trans rfl, (blk_cell BK392.out 0).trans rfl, (blk_cell BK392.out 1).trans rfl, (blk_cell BK373.out 0).trans rfl, (blk_cell BK373.out 1).trans rfl⟩ (fun hHeld => ?_)
     clear hK K
     refine norm_ (a' := ?_) ?_ ?_
     rotate_left
     ·
      show Act.put _ (some 50) _ = _
      simp only [Act.put, sI_, s0_, s1_, i64_w, i32_w]
      rfl
     refine one_ (i := 3) (N := some 51) #[true, true, true, true, true, true, false, false, false] rfl rfl (one_of HT_.out (by kernel_rfl)) (by decide) (fun K hK => ?_)
     refine goes_ Try.func48 (by kernel_rfl) rfl #[.agg #[.bool t383, .slice Ao29 t384.length co29], .agg #[.bool t396, .slice Ao70 t397.length co70]] (by rfl) rfl rfl (by (try simp only [List.map_toArray, List.map_cons, List.map_nil]); rfl) ?_
     with_reducible refine (whole_add.calls kj6 t383 _ _ t384 t396 _ _ t397 t400 t401 _ ?side1 ?side2 ?side3 ?side4 A63.out).mono ?_
     (case side1 => exact (Kd.R_reads' HO_392001.out).2.2)
     (case side2 => exact (Kd.R_reads' HO_392001.out).2.1)
     (case side3 => exact (Kd.R_reads' HO399.out).2.2)
     (case side4 => exact (Kd.R_reads' HO399.out).2.1)
     rintro e w71 ⟨v402, rfl, ho0, hb⟩
     refine ⟨_, rfl, ?_⟩
     have HO403 := am (Kd.R_lower (Kd.R_new' (Kd.R_new' (Kd.R_new' (Kd.R_new' ho0 (Kd.R_lt HO_392001.out)) (Kd.R_lt HO_393001.out)) (Kd.R_lt HO395.out)) (Kd.R_lt HO399.out)) (below_size HB.out))
     replace HO_392001 := am (Kd.R_elder' HO_392001.out (Kd.R_base ho0) hb)
     replace HO_393001 := am (Kd.R_elder' HO_393001.out (Kd.R_base ho0) hb)
     replace HO395 := am (Kd.R_elder' HO395.out (Kd.R_base ho0) hb)
     replace HO399 := am (Kd.R_elder' HO399.out (Kd.R_base ho0) hb)
     replace BK372 := am (blk_below BK372.out hb)
     replace BK373 := am (blk_below BK373.out hb)
     replace BK374 := am (blk_below BK374.out hb)
     replace BK375 := am (blk_below BK375.out hb)
     replace BK391 := am (blk_below BK391.out hb)
     replace BK392 := am (blk_below BK392.out hb)
     replace HB := am (below_step HB.out hb)
     try clear hb
     try clear ho0
     refine hK.out _ _ ⟨(blk_cell BK391.out 0).trans rfl, (blk_cell BK391.out 1).trans rfl, (blk_cell BK392.out 0).trans rfl, (blk_cell BK392.out 1).trans rfl, (blk_cell BK373.out 0).trans rfl, (blk_cell BK373.out 1).trans rfl⟩ (fun hHeld => ?_)
     clear hK K
     refine norm_ (a' := ?_) ?_ ?_
     rotate_left
     ·
      show Act.put _ (some 51) _ = _
      simp only [Act.put, sI_, s0_, s1_, i64_w, i32_w]
      rfl
     refine one_ (i := 6) (N := some 54) #[true, true, true, true, true, true, true, false, false] rfl rfl (one_of HT_.out (by kernel_rfl)) (by decide) (fun K hK => ?_)
     refine goes_ Try.func48 (by kernel_rfl) rfl #[.agg #[.bool t387, .slice Ao32 t388.length co32], .agg #[.bool a1_0, .slice A1_1 l1_1.length c1_1]] (by rfl) rfl rfl (by (try simp only [List.map_toArray, List.map_cons, List.map_nil]); rfl) ?_
     with_reducible refine (whole_add.calls kj6 t387 _ _ t388 a1_0 _ _ l1_1 t404 t405 _ ?side1 ?side2 ?side3 ?side4 A64.out).mono ?_
     (case side1 => exact (Kd.R_reads' HO_393001.out).2.2)
     (case side2 => exact (Kd.R_reads' HO_393001.out).2.1)
     (case side3 => repeat (exact (Kd.C_below HR1_1.out HB.out)))
     (case side4 => exact HC1_1.out)
     rintro e w72 ⟨v406, rfl, ho0, hb⟩
     refine ⟨_, rfl, ?_⟩
     have HO407 := am (Kd.R_lower (Kd.R_new' (Kd.R_new' (Kd.R_new' (Kd.R_new' (Kd.R_new' ho0 (Kd.R_lt HO_392001.out)) (Kd.R_lt HO_393001.out)) (Kd.R_lt HO395.out)) (Kd.R_lt HO399.out)) (Kd.R_lt HO403.out)) (below_size HB.out))
     replace HO_392001 := am (Kd.R_elder' HO_392001.out (Kd.R_base ho0) hb)
     replace HO_393001 := am (Kd.R_elder' HO_393001.out (Kd.R_base ho0) hb)
     replace HO395 := am (Kd.R_elder' HO395.out (Kd.R_base ho0) hb)
     replace HO399 := am (Kd.R_elder' HO399.out (Kd.R_base ho0) hb)
     replace HO403 := am (Kd.R_elder' HO403.out (Kd.R_base ho0) hb)
     replace BK372 := am (blk_below BK372.out hb)
     replace BK373 := am (blk_below BK373.out hb)
     replace BK374 := am (blk_below BK374.out hb)
     replace BK375 := am (blk_below BK375.out hb)
     replace BK391 := am (blk_below BK391.out hb)
     replace BK392 := am (blk_below BK392.out hb)
     replace HB := am (below_step HB.out hb)
     try clear hb
     try clear ho0
     obtain ⟨Ao74, co74, eo74⟩ := Kd.R_slice HO403.out
     (subst eo74)
     obtain ⟨Ao77, co77, eo77⟩ := Kd.R_slice HO407.out
     (subst eo77)
     refine hK.out _ _ ⟨(blk_cell BK391.out 0).trans rfl, (blk_cell BK391.out 1).trans rfl, (blk_cell BK392.out 0).trans rfl, (blk_cell BK392.out 1).trans rfl, (blk_cell BK373.out 0).trans rfl, (blk_cell BK373.out 1).trans rfl⟩ (fun hHeld => ?_)
     clear hK K
     refine norm_ (a' := ?_) ?_ ?_
     rotate_left
     ·
      show Act.put _ (some 54) _ = _
      simp only [Act.put, sI_, s0_, s1_, i64_w, i32_w]
      rfl
     refine last_ (i := 7) (N := none) #[true, true, true, true, true, true, true, true, false] rfl rfl (one_of HT_.out (by kernel_rfl)) (by decide) (fun K hK => ?_)
     have hs73 : w72.cell? ⟨gb391, 0, none⟩ = some (.bool t383) := (blk_cell BK391.out 0).trans rfl
     have hfs73 := blk_frozen BK391.out 0
     have hns73_0 := NB372_391.out
     have hns73_1 := NB373_391.out
     have hns73_2 := NB374_391.out
     have hns73_3 := NB375_391.out
     have hns73_5 := NB392_391.out
     have hms73_0 := NB391_372.out
     have hms73_1 := NB391_373.out
     have hms73_2 := NB391_374.out
     have hms73_3 := NB391_375.out
     have hms73_5 := NB391_392.out
     have hs75 : w72.cell? ⟨gb391, 1, none⟩ = some (.slice Ao29 t384.length co29) := (blk_cell BK391.out 1).trans rfl
     have hfs75 := blk_frozen BK391.out 1
     have hns75_0 := NB372_391.out
     have hns75_1 := NB373_391.out
     have hns75_2 := NB374_391.out
     have hns75_3 := NB375_391.out
     have hns75_5 := NB392_391.out
     have hms75_0 := NB391_372.out
     have hms75_1 := NB391_373.out
     have hms75_2 := NB391_374.out
     have hms75_3 := NB391_375.out
     have hms75_5 := NB391_392.out
     refine skip_ (w1 := ?_) (by rfl) rfl ?_ ?_
     rotate_left
     ·
      go_simp
      rfl
     refine hK.out _ _ ?_
     clear hK K
     refine last_ (i := 8) (N := none) #[true, true, true, true, true, true, true, true, true] rfl rfl (one_of HT_.out (by kernel_rfl)) (by decide) (fun K hK => ?_)
     have hs76 : w72.cell? ⟨gb392, 0, none⟩ = some (.bool t387) := (blk_cell BK392.out 0).trans rfl
     have hfs76 := blk_frozen BK392.out 0
     have hns76_0 := NB372_392.out
     have hns76_1 := NB373_392.out
     have hns76_2 := NB374_392.out
     have hns76_3 := NB375_392.out
     have hns76_4 := NB391_392.out
     have hms76_0 := NB392_372.out
     have hms76_1 := NB392_373.out
     have hms76_2 := NB392_374.out
     have hms76_3 := NB392_375.out
     have hms76_4 := NB392_391.out
     have hs78 : w72.cell? ⟨gb392, 1, none⟩ = some (.slice Ao32 t388.length co32) := (blk_cell BK392.out 1).trans rfl
     have hfs78 := blk_frozen BK392.out 1
     have hns78_0 := NB372_392.out
     have hns78_1 := NB373_392.out
     have hns78_2 := NB374_392.out
     have hns78_3 := NB375_392.out
     have hns78_4 := NB391_392.out
     have hms78_0 := NB392_372.out
     have hms78_1 := NB392_373.out
     have hms78_2 := NB392_374.out
     have hms78_3 := NB392_375.out
     have hms78_4 := NB392_391.out
     refine skip_ (w1 := ?_) (by rfl) rfl ?_ ?_
     rotate_left
     ·
      go_simp
      rfl
     refine hK.out _ _ ?_
     clear hK K
     refine done_ (done_of HT_.out (by kernel_rfl)) ?_
     try go_wp2
     have n0_ : Aside0 (Kd.R (Kd.int .u32) 78 ((((w72.setCell ⟨gb391, 0, none⟩ (.bool t400)).setCell ⟨gb391, 1, none⟩ (.slice Ao74 t401.length co74)).setCell ⟨gb392, 0, none⟩ (.bool t404)).setCell ⟨gb392, 1, none⟩ (.slice Ao77 t405.length co77)) w.heap.size (fun k_ => some k_ ≠ (.slice Ao32 t388.length co32 : Value).ownBlock ∧ some k_ ≠ (.slice Ao68 y393.length co68 : Value).ownBlock ∧ some k_ ≠ (.slice Ao70 t397.length co70 : Value).ownBlock ∧ some k_ ≠ (.slice Ao74 t401.length co74 : Value).ownBlock ∧ some k_ ≠ (.slice Ao77 t405.length co77 : Value).ownBlock) (.slice Ao29 t384.length co29) t384) := ⟨by exact Kd.R_mono (Kd.R_far (p := ⟨gb392, 1, none⟩) (Kd.R_far (p := ⟨gb392, 0, none⟩) (Kd.R_far (p := ⟨gb391, 1, none⟩) (Kd.R_far (p := ⟨gb391, 0, none⟩) (Kd.R_types (Kd.R_types HO_392001.out BK391.out (by decide)) BK392.out (by decide)) (fun _ hk => hk.1.2) (.bool t400)) (fun _ hk => hk.1.2) (.slice Ao74 t401.length co74)) (fun _ hk => hk.2) (.bool t404)) (fun _ hk => hk.2) (.slice Ao77 t405.length co77)) (fun _ hk => ⟨hk.1.1.1.1.1.1, ⟨hk.1.1.1.1.1.2, ⟨hk.1.1.1.1.2, ⟨hk.1.1.1.2, hk.1.1.2⟩⟩⟩⟩)⟩
     have n1_ : Aside0 (Kd.R (Kd.int .u32) 78 ((((w72.setCell ⟨gb391, 0, none⟩ (.bool t400)).setCell ⟨gb391, 1, none⟩ (.slice Ao74 t401.length co74)).setCell ⟨gb392, 0, none⟩ (.bool t404)).setCell ⟨gb392, 1, none⟩ (.slice Ao77 t405.length co77)) w.heap.size (fun k_ => some k_ ≠ (.slice Ao29 t384.length co29 : Value).ownBlock ∧ some k_ ≠ (.slice Ao68 y393.length co68 : Value).ownBlock ∧ some k_ ≠ (.slice Ao70 t397.length co70 : Value).ownBlock ∧ some k_ ≠ (.slice Ao74 t401.length co74 : Value).ownBlock ∧ some k_ ≠ (.slice Ao77 t405.length co77 : Value).ownBlock) (.slice Ao32 t388.length co32) t388) := ⟨by exact Kd.R_mono (Kd.R_far (p := ⟨gb392, 1, none⟩) (Kd.R_far (p := ⟨gb392, 0, none⟩) (Kd.R_far (p := ⟨gb391, 1, none⟩) (Kd.R_far (p := ⟨gb391, 0, none⟩) (Kd.R_types (Kd.R_types HO_393001.out BK391.out (by decide)) BK392.out (by decide)) (fun _ hk => hk.1.2) (.bool t400)) (fun _ hk => hk.1.2) (.slice Ao74 t401.length co74)) (fun _ hk => hk.2) (.bool t404)) (fun _ hk => hk.2) (.slice Ao77 t405.length co77)) (fun _ hk => ⟨hk.1.1.1.1.1.1, ⟨hk.1.1.1.1.1.2, ⟨hk.1.1.1.1.2, ⟨hk.1.1.1.2, hk.1.1.2⟩⟩⟩⟩)⟩
     have n2_ : Aside0 (Kd.R (Kd.int .u32) 78 ((((w72.setCell ⟨gb391, 0, none⟩ (.bool t400)).setCell ⟨gb391, 1, none⟩ (.slice Ao74 t401.length co74)).setCell ⟨gb392, 0, none⟩ (.bool t404)).setCell ⟨gb392, 1, none⟩ (.slice Ao77 t405.length co77)) w.heap.size (fun k_ => some k_ ≠ (.slice Ao29 t384.length co29 : Value).ownBlock ∧ some k_ ≠ (.slice Ao32 t388.length co32 : Value).ownBlock ∧ some k_ ≠ (.slice Ao70 t397.length co70 : Value).ownBlock ∧ some k_ ≠ (.slice Ao74 t401.length co74 : Value).ownBlock ∧ some k_ ≠ (.slice Ao77 t405.length co77 : Value).ownBlock) (.slice Ao68 y393.length co68) y393) := ⟨by exact Kd.R_mono (Kd.R_far (p := ⟨gb392, 1, none⟩) (Kd.R_far (p := ⟨gb392, 0, none⟩) (Kd.R_far (p := ⟨gb391, 1, none⟩) (Kd.R_far (p := ⟨gb391, 0, none⟩) (Kd.R_types (Kd.R_types HO395.out BK391.out (by decide)) BK392.out (by decide)) (fun _ hk => hk.1.2) (.bool t400)) (fun _ hk => hk.1.2) (.slice Ao74 t401.length co74)) (fun _ hk => hk.2) (.bool t404)) (fun _ hk => hk.2) (.slice Ao77 t405.length co77)) (fun _ hk => ⟨hk.1.1.1.1.1.1.2, ⟨hk.1.1.1.1.1.2, ⟨hk.1.1.1.1.2, ⟨hk.1.1.1.2, hk.1.1.2⟩⟩⟩⟩)⟩
     have n3_ : Aside0 (Kd.R (Kd.int .u32) 78 ((((w72.setCell ⟨gb391, 0, none⟩ (.bool t400)).setCell ⟨gb391, 1, none⟩ (.slice Ao74 t401.length co74)).setCell ⟨gb392, 0, none⟩ (.bool t404)).setCell ⟨gb392, 1, none⟩ (.slice Ao77 t405.length co77)) w.heap.size (fun k_ => some k_ ≠ (.slice Ao29 t384.length co29 : Value).ownBlock ∧ some k_ ≠ (.slice Ao32 t388.length co32 : Value).ownBlock ∧ some k_ ≠ (.slice Ao68 y393.length co68 : Value).ownBlock ∧ some k_ ≠ (.slice Ao74 t401.length co74 : Value).ownBlock ∧ some k_ ≠ (.slice Ao77 t405.length co77 : Value).ownBlock) (.slice Ao70 t397.length co70) t397) := ⟨by exact Kd.R_mono (Kd.R_far (p := ⟨gb392, 1, none⟩) (Kd.R_far (p := ⟨gb392, 0, none⟩) (Kd.R_far (p := ⟨gb391, 1, none⟩) (Kd.R_far (p := ⟨gb391, 0, none⟩) (Kd.R_types (Kd.R_types HO399.out BK391.out (by decide)) BK392.out (by decide)) (fun _ hk => hk.1.2) (.bool t400)) (fun _ hk => hk.1.2) (.slice Ao74 t401.length co74)) (fun _ hk => hk.2) (.bool t404)) (fun _ hk => hk.2) (.slice Ao77 t405.length co77)) (fun _ hk => ⟨hk.1.1.1.1.1.1.2, ⟨hk.1.1.1.1.1.2, ⟨hk.1.1.1.1.2, ⟨hk.1.1.1.2, hk.1.1.2⟩⟩⟩⟩)⟩
     have n4_ : Aside0 (Kd.R (Kd.int .u32) 78 ((((w72.setCell ⟨gb391, 0, none⟩ (.bool t400)).setCell ⟨gb391, 1, none⟩ (.slice Ao74 t401.length co74)).setCell ⟨gb392, 0, none⟩ (.bool t404)).setCell ⟨gb392, 1, none⟩ (.slice Ao77 t405.length co77)) w.heap.size (fun k_ => some k_ ≠ (.slice Ao29 t384.length co29 : Value).ownBlock ∧ some k_ ≠ (.slice Ao32 t388.length co32 : Value).ownBlock ∧ some k_ ≠ (.slice Ao68 y393.length co68 : Value).ownBlock ∧ some k_ ≠ (.slice Ao70 t397.length co70 : Value).ownBlock ∧ some k_ ≠ (.slice Ao77 t405.length co77 : Value).ownBlock) (.slice Ao74 t401.length co74) t401) := ⟨by exact Kd.R_mono (Kd.R_far (p := ⟨gb392, 1, none⟩) (Kd.R_far (p := ⟨gb392, 0, none⟩) (Kd.R_far (p := ⟨gb391, 1, none⟩) (Kd.R_far (p := ⟨gb391, 0, none⟩) (Kd.R_types (Kd.R_types HO403.out BK391.out (by decide)) BK392.out (by decide)) (fun _ hk => hk.1.2) (.bool t400)) (fun _ hk => hk.1.2) (.slice Ao74 t401.length co74)) (fun _ hk => hk.2) (.bool t404)) (fun _ hk => hk.2) (.slice Ao77 t405.length co77)) (fun _ hk => ⟨hk.1.1.1.1.1.1.2, ⟨hk.1.1.1.1.1.2, ⟨hk.1.1.1.1.2, ⟨hk.1.1.1.2, hk.1.1.2⟩⟩⟩⟩)⟩
     have n5_ : Aside0 (Kd.R (Kd.int .u32) 78 ((((w72.setCell ⟨gb391, 0, none⟩ (.bool t400)).setCell ⟨gb391, 1, none⟩ (.slice Ao74 t401.length co74)).setCell ⟨gb392, 0, none⟩ (.bool t404)).setCell ⟨gb392, 1, none⟩ (.slice Ao77 t405.length co77)) w.heap.size (fun k_ => some k_ ≠ (.slice Ao29 t384.length co29 : Value).ownBlock ∧ some k_ ≠ (.slice Ao32 t388.length co32 : Value).ownBlock ∧ some k_ ≠ (.slice Ao68 y393.length co68 : Value).ownBlock ∧ some k_ ≠ (.slice Ao70 t397.length co70 : Value).ownBlock ∧ some k_ ≠ (.slice Ao74 t401.length co74 : Value).ownBlock) (.slice Ao77 t405.length co77) t405) := ⟨by exact Kd.R_mono (Kd.R_far (p := ⟨gb392, 1, none⟩) (Kd.R_far (p := ⟨gb392, 0, none⟩) (Kd.R_far (p := ⟨gb391, 1, none⟩) (Kd.R_far (p := ⟨gb391, 0, none⟩) (Kd.R_types (Kd.R_types HO407.out BK391.out (by decide)) BK392.out (by decide)) (fun _ hk => hk.1.2) (.bool t400)) (fun _ hk => hk.1.2) (.slice Ao74 t401.length co74)) (fun _ hk => hk.2) (.bool t404)) (fun _ hk => hk.2) (.slice Ao77 t405.length co77)) (fun _ hk => ⟨hk.1.1.1.1.1.1.2, ⟨hk.1.1.1.1.1.2, ⟨hk.1.1.1.1.2, ⟨hk.1.1.1.2, hk.1.1.2⟩⟩⟩⟩)⟩
     have n6_ : Aside0 (((((w72.setCell ⟨gb391, 0, none⟩ (.bool t400)).setCell ⟨gb391, 1, none⟩ (.slice Ao74 t401.length co74)).setCell ⟨gb392, 0, none⟩ (.bool t404)).setCell ⟨gb392, 1, none⟩ (.slice Ao77 t405.length co77)).heap[gb372]? = some (.cells #[.bool a0_0, .slice A0_1 l0_1.length c0_1] 25 (0, 0))) := ⟨by refine blk_far ?_ NB372_392.out _; refine blk_far ?_ NB372_392.out _; refine blk_far ?_ NB372_391.out _; refine blk_far ?_ NB372_391.out _; exact BK372.out⟩
     have n7_ : Aside0 (((((w72.setCell ⟨gb391, 0, none⟩ (.bool t400)).setCell ⟨gb391, 1, none⟩ (.slice Ao74 t401.length co74)).setCell ⟨gb392, 0, none⟩ (.bool t404)).setCell ⟨gb392, 1, none⟩ (.slice Ao77 t405.length co77)).heap[gb373]? = some (.cells #[.bool a1_0, .slice A1_1 l1_1.length c1_1] 25 (0, 0))) := ⟨by refine blk_far ?_ NB373_392.out _; refine blk_far ?_ NB373_392.out _; refine blk_far ?_ NB373_391.out _; refine blk_far ?_ NB373_391.out _; exact BK373.out⟩
     have n8_ : Aside0 (((((w72.setCell ⟨gb391, 0, none⟩ (.bool t400)).setCell ⟨gb391, 1, none⟩ (.slice Ao74 t401.length co74)).setCell ⟨gb392, 0, none⟩ (.bool t404)).setCell ⟨gb392, 1, none⟩ (.slice Ao77 t405.length co77)).heap[gb374]? = some (.cells #[.bool false, .slice none 0 0] 25 (0, 0))) := ⟨by refine blk_far ?_ NB374_392.out _; refine blk_far ?_ NB374_392.out _; refine blk_far ?_ NB374_391.out _; refine blk_far ?_ NB374_391.out _; exact BK374.out⟩
     have n9_ : Aside0 (((((w72.setCell ⟨gb391, 0, none⟩ (.bool t400)).setCell ⟨gb391, 1, none⟩ (.slice Ao74 t401.length co74)).setCell ⟨gb392, 0, none⟩ (.bool t404)).setCell ⟨gb392, 1, none⟩ (.slice Ao77 t405.length co77)).heap[gb375]? = some (.cells #[.bool false, .slice none 0 0] 25 (0, 0))) := ⟨by refine blk_far ?_ NB375_392.out _; refine blk_far ?_ NB375_392.out _; refine blk_far ?_ NB375_391.out _; refine blk_far ?_ NB375_391.out _; exact BK375.out⟩
     have n10_ : Aside0 (((((w72.setCell ⟨gb391, 0, none⟩ (.bool t400)).setCell ⟨gb391, 1, none⟩ (.slice Ao74 t401.length co74)).setCell ⟨gb392, 0, none⟩ (.bool t404)).setCell ⟨gb392, 1, none⟩ (.slice Ao77 t405.length co77)).heap[gb391]? = some (.cells #[.bool t400, .slice Ao74 t401.length co74] 25 (0, 0))) := ⟨by refine blk_far ?_ NB391_392.out _; refine blk_far ?_ NB391_392.out _; refine blk_put (cs := #[.bool t400, .slice Ao29 t384.length co29]) ?_ 1 _ rfl; refine blk_put (cs := #[.bool t383, .slice Ao29 t384.length co29]) ?_ 0 _ rfl; exact BK391.out⟩
     have n11_ : Aside0 (((((w72.setCell ⟨gb391, 0, none⟩ (.bool t400)).setCell ⟨gb391, 1, none⟩ (.slice Ao74 t401.length co74)).setCell ⟨gb392, 0, none⟩ (.bool t404)).setCell ⟨gb392, 1, none⟩ (.slice Ao77 t405.length co77)).heap[gb392]? = some (.cells #[.bool t404, .slice Ao77 t405.length co77] 25 (0, 0))) := ⟨by refine blk_put (cs := #[.bool t404, .slice Ao32 t388.length co32]) ?_ 1 _ rfl; refine blk_put (cs := #[.bool t387, .slice Ao32 t388.length co32]) ?_ 0 _ rfl; refine blk_far ?_ NB392_391.out _; refine blk_far ?_ NB392_391.out _; exact BK392.out⟩
     have n12_ : Aside0 (Below w.heap.size w ((((w72.setCell ⟨gb391, 0, none⟩ (.bool t400)).setCell ⟨gb391, 1, none⟩ (.slice Ao74 t401.length co74)).setCell ⟨gb392, 0, none⟩ (.bool t404)).setCell ⟨gb392, 1, none⟩ (.slice Ao77 t405.length co77))) := ⟨by repeat ((with_reducible first | exact HB.out | refine below_set ?_ GE391.out | refine below_set ?_ GE392.out))⟩
     try clear HO_392001
     try clear HO_393001
     try clear HO395
     try clear HO399
     try clear HO403
     try clear HO407
     try clear BK372
     try clear BK373
     try clear BK374
     try clear BK375
     try clear BK391
     try clear BK392
     (try clear HB)
     generalize ((((w72.setCell ⟨gb391, 0, none⟩ (.bool t400)).setCell ⟨gb391, 1, none⟩ (.slice Ao74 t401.length co74)).setCell ⟨gb392, 0, none⟩ (.bool t404)).setCell ⟨gb392, 1, none⟩ (.slice Ao77 t405.length co77)) = w79 at n0_ n1_ n2_ n3_ n4_ n5_ n6_ n7_ n8_ n9_ n10_ n11_ n12_ ⊢
     have HO_392001 := n0_
     have HO_393001 := n1_
     have HO395 := n2_
     have HO399 := n3_
     have HO403 := n4_
     have HO407 := n5_
     have BK372 := n6_
     have BK373 := n7_
     have BK374 := n8_
     have BK375 := n9_
     have BK391 := n10_
     have BK392 := n11_
     have HB := n12_
     clear n0_ n1_ n2_ n3_ n4_ n5_ n6_ n7_ n8_ n9_ n10_ n11_ n12_
     replace HO_392001 := am (Kd.R_drew HO_392001.out)
     replace HO_393001 := am (Kd.R_drew HO_393001.out)
     replace HO395 := am (Kd.R_drew HO395.out)
     replace HO399 := am (Kd.R_drew HO399.out)
     replace HO403 := am (Kd.R_drew HO403.out)
     replace HO407 := am (Kd.R_drew HO407.out)
     replace BK372 := am (blk_drew BK372.out)
     replace BK373 := am (blk_drew BK373.out)
     replace BK374 := am (blk_drew BK374.out)
     replace BK375 := am (blk_drew BK375.out)
     replace BK391 := am (blk_drew BK391.out)
     replace BK392 := am (blk_drew BK392.out)
     replace HB := am (below_drew1 HB.out)
     refine start_ (n := 5) (S := fun w' => w'.cell? ⟨gb391, 0, none⟩ = some (.bool t400) ∧ w'.cell? ⟨gb391, 1, none⟩ = some (.slice Ao74 t401.length co74) ∧ w'.cell? ⟨gb392, 0, none⟩ = some (.bool t404) ∧ w'.cell? ⟨gb392, 1, none⟩ = some (.slice Ao77 t405.length co77)) (ds := []) #[false, false, false, false, false] (by kernel_rfl) rfl rfl ⟨(blk_cell BK391.out 0).trans rfl, (blk_cell BK391.out 1).trans rfl, (blk_cell BK392.out 0).trans rfl, (blk_cell BK392.out 1).trans rfl⟩ (fun hHeld => ?_)
     generalize w79.drew = w80 at HO_392001 HO_393001 HO395 HO399 HO403 HO407 BK372 BK373 BK374 BK375 BK391 BK392 HB hHeld ⊢
     refine take_ (i := 0) (N := some 55) (v := ?_) (a' := ?_) #[true, false, false, false, false] rfl rfl (by kernel_rfl) (fun _ _ _ h => h) (Or.inl ⟨by rfl, ?_⟩) hHeld ?_ ?_
     rotate_left
     ·
      rintro w' ⟨s0, s1, s2, s3⟩
      go_simp
      with_reducible rfl
     rotate_left
     ·
      simp only [Act.put, sI_, s0_, s1_, i64_w, i32_w]
      rfl
     refine take_ (i := 1) (N := some 56) (v := ?_) (a' := ?_) #[true, true, false, false, false] rfl rfl (by kernel_rfl) (fun _ _ _ h => h) (Or.inl ⟨by rfl, ?_⟩) hHeld ?_ ?_
     rotate_left
     ·
      rintro w' ⟨s0, s1, s2, s3⟩
      go_simp
      with_reducible rfl
     rotate_left
     ·
      simp only [Act.put, sI_, s0_, s1_, i64_w, i32_w]
      rfl
     refine one_ (i := 2) (N := none) #[true, true, true, false, false] rfl rfl (by kernel_rfl) (by decide) (fun K hK => ?_)
     have hs81 : w80.cell? ⟨gb374, 0, none⟩ = some (.bool false) := (blk_cell BK374.out 0).trans rfl
     have hfs81 := blk_frozen BK374.out 0
     have hns81_0 := NB372_374.out
     have hns81_1 := NB373_374.out
     have hns81_3 := NB375_374.out
     have hns81_4 := NB391_374.out
     have hns81_5 := NB392_374.out
     have hms81_0 := NB374_372.out
     have hms81_1 := NB374_373.out
     have hms81_3 := NB374_375.out
     have hms81_4 := NB374_391.out
     have hms81_5 := NB374_392.out
     have hs82 : w80.cell? ⟨gb374, 1, none⟩ = some (.slice none 0 0) := (blk_cell BK374.out 1).trans rfl
     have hfs82 := blk_frozen BK374.out 1
     have hns82_0 := NB372_374.out
     have hns82_1 := NB373_374.out
     have hns82_3 := NB375_374.out
     have hns82_4 := NB391_374.out
     have hns82_5 := NB392_374.out
     have hms82_0 := NB374_372.out
     have hms82_1 := NB374_373.out
     have hms82_3 := NB374_375.out
     have hms82_4 := NB374_391.out
     have hms82_5 := NB374_392.out
     refine skip_ (w1 := ?_) (by rfl) rfl ?_ ?_
     rotate_left
     ·
      go_simp
      rfl
     refine hK.out _ _ ⟨((cell_far (p := ⟨gb374, _, none⟩) NB391_374.out _).trans (((cell_far (p := ⟨gb374, _, none⟩) NB391_374.out _).trans (hHeld.1)))), ((cell_far (p := ⟨gb374, _, none⟩) NB391_374.out _).trans (((cell_far (p := ⟨gb374, _, none⟩) NB391_374.out _).trans (hHeld.2.1)))), ((cell_far (p := ⟨gb374, _, none⟩) NB392_374.out _).trans (((cell_far (p := ⟨gb374, _, none⟩) NB392_374.out _).trans (hHeld.2.2.1)))), ((cell_far (p := ⟨gb374, _, none⟩) NB392_374.out _).trans (((cell_far (p := ⟨gb374, _, none⟩) NB392_374.out _).trans (hHeld.2.2.2))))⟩ (fun hHeld => ?_)
     clear hK K
     refine one_ (i := 3) (N := none) #[true, true, true, true, false] rfl rfl (by kernel_rfl) (by decide) (fun K hK => ?_)
     have hs83 : w80.cell? ⟨gb375, 0, none⟩ = some (.bool false) := (blk_cell BK375.out 0).trans rfl
     have hfs83 := blk_frozen BK375.out 0
     have hns83_0 := NB372_375.out
     have hns83_1 := NB373_375.out
     have hns83_2 := NB374_375.out
     have hns83_4 := NB391_375.out
     have hns83_5 := NB392_375.out
     have hms83_0 := NB375_372.out
     have hms83_1 := NB375_373.out
     have hms83_2 := NB375_374.out
     have hms83_4 := NB375_391.out
     have hms83_5 := NB375_392.out
     have hs84 : w80.cell? ⟨gb375, 1, none⟩ = some (.slice none 0 0) := (blk_cell BK375.out 1).trans rfl
     have hfs84 := blk_frozen BK375.out 1
     have hns84_0 := NB372_375.out
     have hns84_1 := NB373_375.out
     have hns84_2 := NB374_375.out
     have hns84_4 := NB391_375.out
     have hns84_5 := NB392_375.out
     have hms84_0 := NB375_372.out
     have hms84_1 := NB375_373.out
     have hms84_2 := NB375_374.out
     have hms84_4 := NB375_391.out
     have hms84_5 := NB375_392.out
     refine skip_ (w1 := ?_) (by rfl) rfl ?_ ?_
     rotate_left
     ·
      go_simp
      rfl
     refine hK.out _ _ ⟨((cell_far (p := ⟨gb375, _, none⟩) NB391_375.out _).trans (((cell_far (p := ⟨gb375, _, none⟩) NB391_375.out _).trans (hHeld.1)))), ((cell_far (p := ⟨gb375, _, none⟩) NB391_375.out _).trans (((cell_far (p := ⟨gb375, _, none⟩) NB391_375.out _).trans (hHeld.2.1)))), ((cell_far (p := ⟨gb375, _, none⟩) NB392_375.out _).trans (((cell_far (p := ⟨gb375, _, none⟩) NB392_375.out _).trans (hHeld.2.2.1)))), ((cell_far (p := ⟨gb375, _, none⟩) NB392_375.out _).trans (((cell_far (p := ⟨gb375, _, none⟩) NB392_375.out _).trans (hHeld.2.2.2))))⟩ (fun hHeld => ?_)
     clear hK K
     refine pure_ (i := 4) (N := some 6) (v := ?_) (a' := ?_) #[true, true, true, true, true] rfl rfl (by kernel_rfl) (fun _ _ _ h => h) (Or.inl ⟨by rfl, ?_⟩) ?_ ?_
     rotate_left
     ·
      intro w'
      go_simp
      with_reducible rfl
     rotate_left
     ·
      simp only [Act.put, sI_, s0_, s1_, i64_w, i32_w]
      rfl
     refine done_ (by kernel_rfl) ?_
     try go_wp2
     refine bodyPost_ret (results_list (rs := [.cell 4 25, .cell 5 25, .tmp 6]) rfl (by simp) (.cell gb374 25 #[.bool t400, .slice Ao74 t401.length co74] (0, 0) _ rfl (by refine blk_far ?_ NB374_375.out _; refine blk_far ?_ NB374_375.out _; refine blk_put (cs := #[.bool t400, .slice none 0 0]) ?_ 1 _ rfl; refine blk_put (cs := #[.bool false, .slice none 0 0]) ?_ 0 _ rfl; exact BK374.out) Try.underlying25 rfl (by kernel_rfl) (.cell gb375 25 #[.bool t404, .slice Ao77 t405.length co77] (0, 0) _ rfl (by refine blk_put (cs := #[.bool t404, .slice none 0 0]) ?_ 1 _ rfl; refine blk_put (cs := #[.bool false, .slice none 0 0]) ?_ 0 _ rfl; refine blk_far ?_ NB375_374.out _; refine blk_far ?_ NB375_374.out _; exact BK375.out) Try.underlying25 rfl (by kernel_rfl) (.tmp .nil)))) rfl ?_
     exact ⟨_, _, by rfl, by exact Kd.R_mono (Kd.R_far (p := ⟨gb375, 1, none⟩) (Kd.R_far (p := ⟨gb375, 0, none⟩) (Kd.R_far (p := ⟨gb374, 1, none⟩) (Kd.R_far (p := ⟨gb374, 0, none⟩) (Kd.R_types (Kd.R_types HO403.out BK374.out (by decide)) BK375.out (by decide)) (fun _ hk => hk.1.2) (.bool t400)) (fun _ hk => hk.1.2) (.slice Ao74 t401.length co74)) (fun _ hk => hk.2) (.bool t404)) (fun _ hk => hk.2) (.slice Ao77 t405.length co77)) (fun _ hk => hk.1.1.2.2.2.2), by exact Kd.R_mono (Kd.R_far (p := ⟨gb375, 1, none⟩) (Kd.R_far (p := ⟨gb375, 0, none⟩) (Kd.R_far (p := ⟨gb374, 1, none⟩) (Kd.R_far (p := ⟨gb374, 0, none⟩) (Kd.R_types (Kd.R_types HO407.out BK374.out (by decide)) BK375.out (by decide)) (fun _ hk => hk.1.2) (.bool t400)) (fun _ hk => hk.1.2) (.slice Ao74 t401.length co74)) (fun _ hk => hk.2) (.bool t404)) (fun _ hk => hk.2) (.slice Ao77 t405.length co77)) (fun _ hk => hk.1.1.2.2.2.2), by repeat ((with_reducible first | exact HB.out | refine below_set ?_ GE374.out | refine below_set ?_ GE375.out))⟩
    ·
     replace c61 := Bool.eq_false_iff.mpr c61
     subst c61
     rw [if_neg (show ¬ (false = true) by decide)] at H
     simp only [Option.some.injEq, Prod.mk.injEq] at H
     obtain ⟨rfl, rfl, rfl, rfl, rfl⟩ := H
     try go_wp2
     replace HO_392001 := am (Kd.R_drew HO_392001.out)
     replace HO_393001 := am (Kd.R_drew HO_393001.out)
     replace BK372 := am (blk_drew BK372.out)
     replace BK373 := am (blk_drew BK373.out)
     replace BK374 := am (blk_drew BK374.out)
     replace BK375 := am (blk_drew BK375.out)
     replace BK391 := am (blk_drew BK391.out)
     replace BK392 := am (blk_drew BK392.out)
     replace HB := am (below_drew1 HB.out)
     refine start_ (n := 5) (S := fun w' => w'.cell? ⟨gb391, 0, none⟩ = some (.bool t383) ∧ w'.cell? ⟨gb391, 1, none⟩ = some (.slice Ao29 t384.length co29) ∧ w'.cell? ⟨gb392, 0, none⟩ = some (.bool t387) ∧ w'.cell? ⟨gb392, 1, none⟩ = some (.slice Ao32 t388.length co32)) (ds := []) #[false, false, false, false, false] (by kernel_rfl) rfl rfl ⟨(blk_cell BK391.out 0).trans rfl, (blk_cell BK391.out 1).trans rfl, (blk_cell BK392.out 0).trans rfl, (blk_cell BK392.out 1).trans rfl⟩ (fun hHeld => ?_)
     generalize wc.drew = w85 at HO_392001 HO_393001 BK372 BK373 BK374 BK375 BK391 BK392 HB hHeld ⊢
     refine take_ (i := 0) (N := some 55) (v := ?_) (a' := ?_) #[true, false, false, false, false] rfl rfl (by kernel_rfl) (fun _ _ _ h => h) (Or.inl ⟨by rfl, ?_⟩) hHeld ?_ ?_
     rotate_left
     ·
      rintro w' ⟨s0, s1, s2, s3⟩
      go_simp
      with_reducible rfl
     rotate_left
     ·
      simp only [Act.put, sI_, s0_, s1_, i64_w, i32_w]
      rfl
     refine take_ (i := 1) (N := some 56) (v := ?_) (a' := ?_) #[true, true, false, false, false] rfl rfl (by kernel_rfl) (fun _ _ _ h => h) (Or.inl ⟨by rfl, ?_⟩) hHeld ?_ ?_
     rotate_left
     ·
      rintro w' ⟨s0, s1, s2, s3⟩
      go_simp
      with_reducible rfl
     rotate_left
     ·
      simp only [Act.put, sI_, s0_, s1_, i64_w, i32_w]
      rfl
     refine one_ (i := 2) (N := none) #[true, true, true, false, false] rfl rfl (by kernel_rfl) (by decide) (fun K hK => ?_)
     have hs86 : w85.cell? ⟨gb374, 0, none⟩ = some (.bool false) := (blk_cell BK374.out 0).trans rfl
     have hfs86 := blk_frozen BK374.out 0
     have hns86_0 := NB372_374.out
     have hns86_1 := NB373_374.out
     have hns86_3 := NB375_374.out
     have hns86_4 := NB391_374.out
     have hns86_5 := NB392_374.out
     have hms86_0 := NB374_372.out
     have hms86_1 := NB374_373.out
     have hms86_3 := NB374_375.out
     have hms86_4 := NB374_391.out
     have hms86_5 := NB374_392.out
     have hs87 : w85.cell? ⟨gb374, 1, none⟩ = some (.slice none 0 0) := (blk_cell BK374.out 1).trans rfl
     have hfs87 := blk_frozen BK374.out 1
     have hns87_0 := NB372_374.out
     have hns87_1 := NB373_374.out
     have hns87_3 := NB375_374.out
     have hns87_4 := NB391_374.out
     have hns87_5 := NB392_374.out
     have hms87_0 := NB374_372.out
     have hms87_1 := NB374_373.out
     have hms87_3 := NB374_375.out
     have hms87_4 := NB374_391.out
     have hms87_5 := NB374_392.out
     refine skip_ (w1 := ?_) (by rfl) rfl ?_ ?_
     rotate_left
     ·
      go_simp
      rfl
     refine hK.out _ _ ⟨((cell_far (p := ⟨gb374, _, none⟩) NB391_374.out _).trans (((cell_far (p := ⟨gb374, _, none⟩) NB391_374.out _).trans (hHeld.1)))), ((cell_far (p := ⟨gb374, _, none⟩) NB391_374.out _).trans (((cell_far (p := ⟨gb374, _, none⟩) NB391_374.out _).trans (hHeld.2.1)))), ((cell_far (p := ⟨gb374, _, none⟩) NB392_374.out _).trans (((cell_far (p := ⟨gb374, _, none⟩) NB392_374.out _).trans (hHeld.2.2.1)))), ((cell_far (p := ⟨gb374, _, none⟩) NB392_374.out _).trans (((cell_far (p := ⟨gb374, _, none⟩) NB392_374.out _).trans (hHeld.2.2.2))))⟩ (fun hHeld => ?_)
     clear hK K
     refine one_ (i := 3) (N := none) #[true, true, true, true, false] rfl rfl (by kernel_rfl) (by decide) (fun K hK => ?_)
     have hs88 : w85.cell? ⟨gb375, 0, none⟩ = some (.bool false) := (blk_cell BK375.out 0).trans rfl
     have hfs88 := blk_frozen BK375.out 0
     have hns88_0 := NB372_375.out
     have hns88_1 := NB373_375.out
     have hns88_2 := NB374_375.out
     have hns88_4 := NB391_375.out
     have hns88_5 := NB392_375.out
     have hms88_0 := NB375_372.out
     have hms88_1 := NB375_373.out
     have hms88_2 := NB375_374.out
     have hms88_4 := NB375_391.out
     have hms88_5 := NB375_392.out
     have hs89 : w85.cell? ⟨gb375, 1, none⟩ = some (.slice none 0 0) := (blk_cell BK375.out 1).trans rfl
     have hfs89 := blk_frozen BK375.out 1
     have hns89_0 := NB372_375.out
     have hns89_1 := NB373_375.out
     have hns89_2 := NB374_375.out
     have hns89_4 := NB391_375.out
     have hns89_5 := NB392_375.out
     have hms89_0 := NB375_372.out
     have hms89_1 := NB375_373.out
     have hms89_2 := NB375_374.out
     have hms89_4 := NB375_391.out
     have hms89_5 := NB375_392.out
     refine skip_ (w1 := ?_) (by rfl) rfl ?_ ?_
     rotate_left
     ·
      go_simp
      rfl
     refine hK.out _ _ ⟨((cell_far (p := ⟨gb375, _, none⟩) NB391_375.out _).trans (((cell_far (p := ⟨gb375, _, none⟩) NB391_375.out _).trans (hHeld.1)))), ((cell_far (p := ⟨gb375, _, none⟩) NB391_375.out _).trans (((cell_far (p := ⟨gb375, _, none⟩) NB391_375.out _).trans (hHeld.2.1)))), ((cell_far (p := ⟨gb375, _, none⟩) NB392_375.out _).trans (((cell_far (p := ⟨gb375, _, none⟩) NB392_375.out _).trans (hHeld.2.2.1)))), ((cell_far (p := ⟨gb375, _, none⟩) NB392_375.out _).trans (((cell_far (p := ⟨gb375, _, none⟩) NB392_375.out _).trans (hHeld.2.2.2))))⟩ (fun hHeld => ?_)
     clear hK K
     refine pure_ (i := 4) (N := some 6) (v := ?_) (a' := ?_) #[true, true, true, true, true] rfl rfl (by kernel_rfl) (fun _ _ _ h => h) (Or.inl ⟨by rfl, ?_⟩) ?_ ?_
     rotate_left
     ·
      intro w'
      go_simp
      with_reducible rfl
     rotate_left
     ·
      simp only [Act.put, sI_, s0_, s1_, i64_w, i32_w]
      rfl
     refine done_ (by kernel_rfl) ?_
     try go_wp2
     refine bodyPost_ret (results_list (rs := [.cell 4 25, .cell 5 25, .tmp 6]) rfl (by simp) (.cell gb374 25 #[.bool t383, .slice Ao29 t384.length co29] (0, 0) _ rfl (by refine blk_far ?_ NB374_375.out _; refine blk_far ?_ NB374_375.out _; refine blk_put (cs := #[.bool t383, .slice none 0 0]) ?_ 1 _ rfl; refine blk_put (cs := #[.bool false, .slice none 0 0]) ?_ 0 _ rfl; exact BK374.out) Try.underlying25 rfl (by kernel_rfl) (.cell gb375 25 #[.bool t387, .slice Ao32 t388.length co32] (0, 0) _ rfl (by refine blk_put (cs := #[.bool t387, .slice none 0 0]) ?_ 1 _ rfl; refine blk_put (cs := #[.bool false, .slice none 0 0]) ?_ 0 _ rfl; refine blk_far ?_ NB375_374.out _; refine blk_far ?_ NB375_374.out _; exact BK375.out) Try.underlying25 rfl (by kernel_rfl) (.tmp .nil)))) rfl ?_
     exact ⟨_, _, by rfl, by exact Kd.R_mono (Kd.R_far (p := ⟨gb375, 1, none⟩) (Kd.R_far (p := ⟨gb375, 0, none⟩) (Kd.R_far (p := ⟨gb374, 1, none⟩) (Kd.R_far (p := ⟨gb374, 0, none⟩) (Kd.R_types (Kd.R_types HO_392001.out BK374.out (by decide)) BK375.out (by decide)) (fun _ hk => hk.1.2) (.bool t383)) (fun _ hk => hk.1.2) (.slice Ao29 t384.length co29)) (fun _ hk => hk.2) (.bool t387)) (fun _ hk => hk.2) (.slice Ao32 t388.length co32)) (fun _ hk => hk.1.1), by exact Kd.R_mono (Kd.R_far (p := ⟨gb375, 1, none⟩) (Kd.R_far (p := ⟨gb375, 0, none⟩) (Kd.R_far (p := ⟨gb374, 1, none⟩) (Kd.R_far (p := ⟨gb374, 0, none⟩) (Kd.R_types (Kd.R_types HO_393001.out BK374.out (by decide)) BK375.out (by decide)) (fun _ hk => hk.1.2) (.bool t383)) (fun _ hk => hk.1.2) (.slice Ao29 t384.length co29)) (fun _ hk => hk.2) (.bool t387)) (fun _ hk => hk.2) (.slice Ao32 t388.length co32)) (fun _ hk => hk.1.1), by repeat ((with_reducible first | exact HB.out | refine below_set ?_ GE374.out | refine below_set ?_ GE375.out))⟩
 ·
  rw [if_neg c4] at H
  have c4b0 : (t378 == 0) = false := beq_eq_false_iff_ne.mpr c4
  have c4b1 : (t378 != 0) = true := bne_iff_ne.mpr c4
  simp only [Option.some.injEq, Prod.mk.injEq] at H
  obtain ⟨rfl, rfl, rfl, rfl, rfl⟩ := H
  go_enter Try.func12, Try.ntmps12
  go_wp2_with (first | ((with_reducible refine gate_dst (N := 2) rfl ?_); (try (refine gate_guard (by rfl) ?_; dsimp only)); refine box_event ?hg (N := 2) ?hd (cs := #[.bool a0_0, .slice A0_1 l0_1.length c0_1]) (t := 25) ?hr ?_; (case hd => rfl); (case hg => rfl); (case hr => (go_simp; done)); intro gb372 hg w90 hbox hb; have BK372 := am hbox; have GW372 := am (gel hg HB.out); have GE372 := am (gel hg HB.out); replace HB := am (below_step HB.out hb); clear hb hbox hg) | ((with_reducible refine gate_dst (N := 3) rfl ?_); (try (refine gate_guard (by rfl) ?_; dsimp only)); refine box_event ?hg (N := 3) ?hd (cs := #[.bool a1_0, .slice A1_1 l1_1.length c1_1]) (t := 25) ?hr ?_; (case hd => rfl); (case hg => rfl); (case hr => (go_simp; done)); intro gb373 hg w91 hbox hb; have BK373 := am hbox; have GW373 := am (gel hg HB.out); have GE373 := am (gel hg HB.out); replace HB := am (below_step HB.out hb); have NB372_373 := am (nel hg BK372.out); have NB373_372 := am (ner hg BK372.out); replace BK372 := am (blk_below BK372.out hb); clear hb hbox hg) | ((with_reducible refine gate_dst (N := 4) rfl ?_); (try (refine gate_guard (by rfl) ?_; dsimp only)); refine box_event ?hg (N := 4) ?hd (cs := #[.bool false, .slice none 0 0]) (t := 25) ?hr ?_; (case hd => rfl); (case hg => rfl); (case hr => (go_simp; done)); intro gb374 hg w92 hbox hb; have BK374 := am hbox; have GW374 := am (gel hg HB.out); have GE374 := am (gel hg HB.out); replace HB := am (below_step HB.out hb); have NB372_374 := am (nel hg BK372.out); have NB374_372 := am (ner hg BK372.out); replace BK372 := am (blk_below BK372.out hb); have NB373_374 := am (nel hg BK373.out); have NB374_373 := am (ner hg BK373.out); replace BK373 := am (blk_below BK373.out hb); clear hb hbox hg) | ((with_reducible refine gate_dst (N := 5) rfl ?_); (try (refine gate_guard (by rfl) ?_; dsimp only)); refine box_event ?hg (N := 5) ?hd (cs := #[.bool false, .slice none 0 0]) (t := 25) ?hr ?_; (case hd => rfl); (case hg => rfl); (case hr => (go_simp; done)); intro gb375 hg w93 hbox hb; have BK375 := am hbox; have GW375 := am (gel hg HB.out); have GE375 := am (gel hg HB.out); replace HB := am (below_step HB.out hb); have NB372_375 := am (nel hg BK372.out); have NB375_372 := am (ner hg BK372.out); replace BK372 := am (blk_below BK372.out hb); have NB373_375 := am (nel hg BK373.out); have NB375_373 := am (ner hg BK373.out); replace BK373 := am (blk_below BK373.out hb); have NB374_375 := am (nel hg BK374.out); have NB375_374 := am (ner hg BK374.out); replace BK374 := am (blk_below BK374.out hb); clear hb hbox hg; have hnb94 := NB372_373.out; have hnc94 := NB373_372.out; have hnb95 := NB372_374.out; have hnc95 := NB374_372.out; have hnb96 := NB372_375.out; have hnc96 := NB375_372.out; have hcz97_0 : w93.cell? ⟨gb372, 0, none⟩ = some (.bool a0_0) := (blk_cell BK372.out 0).trans rfl; have hcz97_1 : w93.cell? ⟨gb372, 1, none⟩ = some (.slice A0_1 l0_1.length c0_1) := (blk_cell BK372.out 1).trans rfl; have hfz97_0 := blk_frozen BK372.out 0; have hfz97_1 := blk_frozen BK372.out 1; have hnb98 := NB373_374.out; have hnc98 := NB374_373.out; have hnb99 := NB373_375.out; have hnc99 := NB375_373.out; have hcz100_0 : w93.cell? ⟨gb373, 0, none⟩ = some (.bool a1_0) := (blk_cell BK373.out 0).trans rfl; have hcz100_1 : w93.cell? ⟨gb373, 1, none⟩ = some (.slice A1_1 l1_1.length c1_1) := (blk_cell BK373.out 1).trans rfl; have hfz100_0 := blk_frozen BK373.out 0; have hfz100_1 := blk_frozen BK373.out 1) | ((with_reducible refine gate_callee (f := 46) rfl ?_); refine goesL_ (some 17) rfl rfl Try.func46 (by kernel_rfl) rfl #[.slice A0_1 l0_1.length c0_1, .slice A1_1 l1_1.length c1_1] rfl (by (try simp only [List.map_toArray, List.map_cons, List.map_nil]); rfl) ?_; (with_reducible refine (nat_DivMod.calls k _ _ l0_1 _ _ l1_1 t376 t377 t378 _ ?side1 ?side2 ?side3 ?side4 A3.out).mono ?_); (case side1 => repeat (exact (Kd.C_below HR0_1.out HB.out))); (case side2 => exact HC0_1.out); (case side3 => repeat (exact (Kd.C_below HR1_1.out HB.out))); (case side4 => exact HC1_1.out); rintro e w101 ⟨v379, v381, rfl, ho0, ho1, hb⟩; refine ⟨_, rfl, ?_⟩; have HO380 := am (Kd.R_lower ho0 (below_size HB.out)); have HO382 := am (Kd.R_lower ho1 (below_size HB.out)); replace BK372 := am (blk_below BK372.out hb); replace BK373 := am (blk_below BK373.out hb); replace BK374 := am (blk_below BK374.out hb); replace BK375 := am (blk_below BK375.out hb); replace HB := am (below_step HB.out hb); (try clear hb); (try clear ho0); (try clear ho1); have hnb102 := NB374_375.out; have hnc102 := NB375_374.out; have hcz103_0 : w101.cell? ⟨gb374, 0, none⟩ = some (.bool false) := (blk_cell BK374.out 0).trans rfl; have hcz103_1 : w101.cell? ⟨gb374, 1, none⟩ = some (.slice none 0 0) := (blk_cell BK374.out 1).trans rfl; have hfz103_0 := blk_frozen BK374.out 0; have hfz103_1 := blk_frozen BK374.out 1; have hcz104_0 : w101.cell? ⟨gb375, 0, none⟩ = some (.bool false) := (blk_cell BK375.out 0).trans rfl; have hcz104_1 : w101.cell? ⟨gb375, 1, none⟩ = some (.slice none 0 0) := (blk_cell BK375.out 1).trans rfl; have hfz104_0 := blk_frozen BK375.out 0; have hfz104_1 := blk_frozen BK375.out 1))
  refine bodyPost_ret (results_list (rs := [.cell 4 25, .cell 5 25, .tmp 6]) rfl (by simp) (.cell gb374 25 #[.bool false, .slice none 0 0] (0, 0) _ rfl (by refine blk_far ?_ NB374_375.out _; refine blk_far ?_ NB374_375.out _; refine blk_put (cs := #[.bool false, .slice none 0 0]) ?_ 1 _ rfl; refine blk_put (cs := #[.bool false, .slice none 0 0]) ?_ 0 _ rfl; exact BK374.out) Try.underlying25 rfl (by kernel_rfl) (.cell gb375 25 #[.bool false, .slice none 0 0] (0, 0) _ rfl (by refine blk_put (cs := #[.bool false, .slice none 0 0]) ?_ 1 _ rfl; refine blk_put (cs := #[.bool false, .slice none 0 0]) ?_ 0 _ rfl; refine blk_far ?_ NB375_374.out _; refine blk_far ?_ NB375_374.out _; exact BK375.out) Try.underlying25 rfl (by kernel_rfl) (.tmp .nil)))) rfl ?_
  exact ⟨_, _, by rfl, by exact Kd.R_nil _ _ _ _ _, by exact Kd.R_nil _ _ _ _ _, by repeat ((with_reducible first | exact HB.out | refine below_set ?_ GE374.out | refine below_set ?_ GE375.out))⟩

end Go.Proofs.Ytmfmojldebhboaa.ZWhole
