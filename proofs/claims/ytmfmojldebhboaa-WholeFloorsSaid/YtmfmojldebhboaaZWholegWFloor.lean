-- printed by zprint.py, a program of this session's
import Derived.Test.YtmfmojldebhboaaZWhole0
import Derived.Test.YtmfmojldebhboaaZWholegDiv
import Derived.Test.YtmfmojldebhboaaZWholegSize
import Derived.Test.YtmfmojldebhboaaZWholegWAdd
namespace Go.Proofs.Ytmfmojldebhboaa.ZWhole
open Go.RowKit Go.Proofs.YtmfmojldebhboaaW.PrintWords Go.Proofs.YtmfmojldebhboaaW.PrintLast Go.Proofs.YtmfmojldebhboaaW.PrintMore
set_option linter.unusedVariables false
set_option linter.unusedSimpArgs false

/-! ### whole_Floor: function 12 -/
def whole_Floor.j0 : Nat → Bool → Bool → List Int → Bool → List Int → Bool → List Int → Option (Bool × List Int × Bool × List Int × Int)
 | 0, _, _, _, _, _, _, _ => none
 | k + 1, u9, q0, q1, qN, qO, qP, qQ => if u9 = true then ((whole_norm.f k true (([1] : List Int))).bind fun bt396 => ((whole_add.f k qN qO bt396.1 bt396.2).bind fun bt400 => ((whole_add.f k qP qQ q0 q1).bind fun bt404 => (some (bt400.1, bt400.2, bt404.1, bt404.2, 0))))) else (some (qN, qO, qP, qQ, 0))
def whole_Floor.f (k : Nat) (a0_0 : Bool) (l0_1 : List Int) (a1_0 : Bool) (l1_1 : List Int) : Option (Bool × List Int × Bool × List Int × Int) := (nat_DivMod.f k l0_1 l1_1).bind fun bt376 => (if bt376.2.2 = 0 then ((whole_norm.f k (a0_0 != a1_0) bt376.1).bind fun bt383 => ((whole_norm.f k a0_0 bt376.2.1).bind fun bt387 => (if (a0_0 != a1_0) = true then (whole_Floor.j0 k (decide ((bt387.2.length : Int) > 0)) a1_0 l1_1 bt383.1 bt383.2 bt387.1 bt387.2) else (whole_Floor.j0 k false a1_0 l1_1 bt383.1 bt383.2 bt387.1 bt387.2)))) else (some (false, ([] : List Int), false, ([] : List Int), bt376.2.2)))
theorem whole_Floor.mono_l : ∀ k, (∀ y0 y1 y2 y3 y4 y5 y6, LeO (whole_Floor.j0 k y0 y1 y2 y3 y4 y5 y6) (whole_Floor.j0 (k + 1) y0 y1 y2 y3 y4 y5 y6))
 | 0 => fun _ _ _ _ _ _ _ r h => by simp [whole_Floor.j0] at h
 | k + 1 => by
  have ih0 := whole_Floor.mono_l k
  ·
   intro y0 y1 y2 y3 y4 y5 y6
   unfold whole_Floor.j0
   repeat' first
   | (with_reducible exact whole_add.mono _ _ _ _ _)
   | (with_reducible exact whole_norm.mono _ _ _)
   | (with_reducible exact LeO.refl _)
   | (with_reducible refine LeO.ite ?_ ?_)
   | (with_reducible refine LeO.bind ?_ (fun _ => ?_))
theorem whole_Floor.mono : ∀ a0 a1 a2 a3 k, LeO (whole_Floor.f k a0 a1 a2 a3) (whole_Floor.f (k + 1) a0 a1 a2 a3) := by
 intro a0 a1 a2 a3 k
 have ih0 := whole_Floor.mono_l k
 unfold whole_Floor.f
 repeat' first
   | (with_reducible exact ih0 _ _ _ _ _ _ _)
   | (with_reducible exact nat_DivMod.mono _ _ _)
   | (with_reducible exact whole_norm.mono _ _ _)
   | (with_reducible exact LeO.refl _)
   | (with_reducible refine LeO.ite ?_ ?_)
   | (with_reducible refine LeO.bind ?_ (fun _ => ?_))
def whole_Floor.T4 : Bool × List (List Nat × List Nat) := (true, [([], []), ([0], [0]), ([], []), ([2], [2]), ([1, 3], [1, 3]), ([], []), ([4, 5], [4, 5]), ([], []), ([7], [7]), ([], []), ([8, 9, 6], [8, 9]), ([], []), ([], []), ([11, 6, 10, 0, 1, 2, 3, 4, 5, 6, 11, 12], [6, 11]), ([12, 10, 13, 0, 1, 2, 3, 4, 5, 6, 7, 8, 9, 10, 11, 12, 13], [10, 12])])
def whole_Floor.B4 : List Nat := [0, 1, 0, 4, 15, 0, 63, 0, 128, 0, 1023, 0, 0, 8191, 16383]
theorem whole_Floor.tab4 : rtab .any (opsOf Try.f12 4) = whole_Floor.T4 := by kernel_rfl
theorem whole_Floor.bits4 : waitsOk whole_Floor.T4.2 whole_Floor.B4 = true := by kernel_rfl
def whole_Floor.T6 : Bool × List (List Nat × List Nat) := (true, [([], []), ([], []), ([1], [1]), ([0, 2, 2], [0, 2]), ([], []), ([], []), ([4, 5, 3], [4, 5]), ([3, 6, 0, 1, 2, 3], [3]), ([6, 7, 0, 1, 2, 3, 4, 5, 6, 7], [6])])
def whole_Floor.B6 : List Nat := [0, 0, 2, 7, 0, 0, 63, 127, 255]
theorem whole_Floor.tab6 : rtab .any (opsOf Try.f12 6) = whole_Floor.T6 := by kernel_rfl
theorem whole_Floor.bits6 : waitsOk whole_Floor.T6.2 whole_Floor.B6 = true := by kernel_rfl
set_option maxHeartbeats 8000000 in
set_option maxRecDepth 100000 in
theorem whole_Floor.calls (k : Nat) (a0_0 : Bool) (jT : Option Addr) (jU : Nat) (l0_1 : List Int) (a1_0 : Bool) (jP : Option Addr) (jQ : Nat) (l1_1 : List Int) (r1 : Bool) (r2 : List Int) (r3 : Bool) (r4 : List Int) (r5 : Int) (w : World) (hr0_1 : Kd.C (Kd.int .u32) w jT l0_1.length l0_1) (hc0_1 : l0_1.length ≤ jU) (hr1_1 : Kd.C (Kd.int .u32) w jP l1_1.length l1_1) (hc1_1 : l1_1.length ≤ jQ) (h : whole_Floor.f k a0_0 l0_1 a1_0 l1_1 = some (r1, r2, r3, r4, r5)) :
  Calls Try.prog 12 #[.agg #[.bool a0_0, .slice jT l0_1.length jU], .agg #[.bool a1_0, .slice jP l1_1.length jQ]] w fun e w' => ∃ v1_ v3_ : Value, e = .returned (.tuple #[.agg #[.bool r1, v1_], .agg #[.bool r3, v3_], .int .i64 r5]) ∧ Kd.R (Kd.int .u32) 78 w' w.heap.size (fun k_ => some k_ ≠ (v3_ : Value).ownBlock) v1_ r2 ∧ Kd.R (Kd.int .u32) 78 w' w.heap.size (fun k_ => some k_ ≠ (v1_ : Value).ownBlock) v3_ r4 ∧ Below w.heap.size w w' := by
 have hu25 := Try.underlying25
 have q3 := am hr0_1
 have q4 := am hc0_1
 clear hr0_1 hc0_1
 have qV := am hr1_1
 have qW := am hc1_1
 clear hr1_1 hc1_1
 have HB := am (Below.refl w.heap.size w)
 have H : ((nat_DivMod.f k l0_1 l1_1).bind fun bt376 => (if bt376.2.2 = 0 then ((whole_norm.f k (a0_0 != a1_0) bt376.1).bind fun bt383 => ((whole_norm.f k a0_0 bt376.2.1).bind fun bt387 => (if (a0_0 != a1_0) = true then (whole_Floor.j0 k (decide ((bt387.2.length : Int) > 0)) a1_0 l1_1 bt383.1 bt383.2 bt387.1 bt387.2) else (whole_Floor.j0 k false a1_0 l1_1 bt383.1 bt383.2 bt387.1 bt387.2)))) else (some (false, ([] : List Int), false, ([] : List Int), bt376.2.2)))) = some (r1, r2, r3, r4, r5) := h
 clear h
 obtain ⟨⟨jG, jH, qI⟩, A3, H⟩ := bindE H
 dsimp only at H
 by_cases c4 : qI = 0
 ·
  rw [if_pos c4] at H
  have c4b0 : (qI == 0) = true := beq_iff_eq.mpr c4
  have c4b1 : (qI != 0) = false := bne_eq_false_iff_eq.mpr c4
  clear c4
  obtain ⟨⟨qe, jW⟩, A5, H⟩ := bindE H
  dsimp only at H
  obtain ⟨⟨qo, jZ⟩, A6, H⟩ := bindE H
  dsimp only at H
  have z1 := am H
  clear H
  go_enter Try.func12, Try.ntmps12
  try go_wp2_with (first | ((with_reducible refine gate_dst (N := 2) rfl ?_); (try (refine gate_guard (by rfl) ?_; dsimp only)); refine box_event ?hg (N := 2) ?hd (cs := #[.bool a0_0, .slice jT l0_1.length jU]) (t := 25) ?hr ?_; (case hd => rfl); (case hg => rfl); (case hr => (go_simp; done)); intro jh hg w8 hbox hb; have jb := am hbox; have q7 := am (gel hg HB.out); have q8 := am (gel hg HB.out); replace HB := am (below_step HB.out hb); clear hb hbox hg) | ((with_reducible refine gate_dst (N := 3) rfl ?_); (try (refine gate_guard (by rfl) ?_; dsimp only)); refine box_event ?hg (N := 3) ?hd (cs := #[.bool a1_0, .slice jP l1_1.length jQ]) (t := 25) ?hr ?_; (case hd => rfl); (case hg => rfl); (case hr => (go_simp; done)); intro jg hg w9 hbox hb; have ja := am hbox; have q9 := am (gel hg HB.out); have za := am (gel hg HB.out); replace HB := am (below_step HB.out hb); have qv := am (nel hg jb.out); have qw := am (ner hg jb.out); replace jb := am (blk_below jb.out hb); clear hb hbox hg) | ((with_reducible refine gate_dst (N := 4) rfl ?_); (try (refine gate_guard (by rfl) ?_; dsimp only)); refine box_event ?hg (N := 4) ?hd (cs := #[.bool false, .slice none 0 0]) (t := 25) ?hr ?_; (case hd => rfl); (case hg => rfl); (case hr => (go_simp; done)); intro ji hg XB hbox hb; have jd := am hbox; have zb := am (gel hg HB.out); have qR := am (gel hg HB.out); replace HB := am (below_step HB.out hb); have j4 := am (nel hg jb.out); have j5 := am (ner hg jb.out); replace jb := am (blk_below jb.out hb); have j6 := am (nel hg ja.out); have j7 := am (ner hg ja.out); replace ja := am (blk_below ja.out hb); clear hb hbox hg) | ((with_reducible refine gate_dst (N := 5) rfl ?_); (try (refine gate_guard (by rfl) ?_; dsimp only)); refine box_event ?hg (N := 5) ?hd (cs := #[.bool false, .slice none 0 0]) (t := 25) ?hr ?_; (case hd => rfl); (case hg => rfl); (case hr => (go_simp; done)); intro jj hg zq hbox hb; have jf := am hbox; have zc := am (gel hg HB.out); have qS := am (gel hg HB.out); replace HB := am (below_step HB.out hb); have j8 := am (nel hg jb.out); have j9 := am (ner hg jb.out); replace jb := am (blk_below jb.out hb); have qa := am (nel hg ja.out); have qb := am (ner hg ja.out); replace ja := am (blk_below ja.out hb); have jR := am (nel hg jd.out); have jS := am (ner hg jd.out); replace jd := am (blk_below jd.out hb); clear hb hbox hg; have z8 := qv.out; have z9 := qw.out; have ua := j4.out; have ub := j5.out; have uc := j8.out; have ud := j9.out; have zr : zq.cell? ⟨jh, 0, none⟩ = some (.bool a0_0) := (blk_cell jb.out 0).trans rfl; have zs : zq.cell? ⟨jh, 1, none⟩ = some (.slice jT l0_1.length jU) := (blk_cell jb.out 1).trans rfl; have zt := blk_frozen jb.out 0; have zu := blk_frozen jb.out 1; have ue := j6.out; have uf := j7.out; have ug := qa.out; have uh := qb.out; have zv : zq.cell? ⟨jg, 0, none⟩ = some (.bool a1_0) := (blk_cell ja.out 0).trans rfl; have zw : zq.cell? ⟨jg, 1, none⟩ = some (.slice jP l1_1.length jQ) := (blk_cell ja.out 1).trans rfl; have zx := blk_frozen ja.out 0; have zy := blk_frozen ja.out 1) | ((with_reducible refine gate_callee (f := 46) rfl ?_); refine goesL_ (some 17) rfl rfl Try.func46 (by kernel_rfl) rfl #[.slice jT l0_1.length jU, .slice jP l1_1.length jQ] rfl (by (try simp only [List.map_toArray, List.map_cons, List.map_nil]); rfl) ?_; (with_reducible refine (nat_DivMod.calls k _ _ l0_1 _ _ l1_1 jG jH qI _ ?side1 ?side2 ?side3 ?side4 A3.out).mono ?_); (case side1 => repeat (exact (Kd.C_below q3.out HB.out))); (case side2 => exact q4.out); (case side3 => repeat (exact (Kd.C_below qV.out HB.out))); (case side4 => exact qW.out); rintro e Xa ⟨z2, z3, rfl, ho0, ho1, hb⟩; refine ⟨_, rfl, ?_⟩; have jk := am (Kd.R_lower ho0 (below_size HB.out)); have jl := am (Kd.R_lower ho1 (below_size HB.out)); replace jb := am (blk_below jb.out hb); replace ja := am (blk_below ja.out hb); replace jd := am (blk_below jd.out hb); replace jf := am (blk_below jf.out hb); replace HB := am (below_step HB.out hb); (try clear hb); (try clear ho0); (try clear ho1); obtain ⟨jL, jM, eo20⟩ := Kd.R_slice jk.out; subst eo20; obtain ⟨jN, jO, eo21⟩ := Kd.R_slice jl.out; subst eo21))
  replace jk := am (Kd.R_drew jk.out)
  replace jl := am (Kd.R_drew jl.out)
  replace jb := am (blk_drew jb.out)
  replace ja := am (blk_drew ja.out)
  replace jd := am (blk_drew jd.out)
  replace jf := am (blk_drew jf.out)
  replace HB := am (below_drew1 HB.out)
  refine start_ (n := 15) (S := fun w' => w'.cell? ⟨jh, 0, none⟩ = some (.bool a0_0) ∧ w'.cell? ⟨jh, 1, none⟩ = some (.slice jT l0_1.length jU) ∧ w'.cell? ⟨jg, 0, none⟩ = some (.bool a1_0) ∧ w'.cell? ⟨jg, 1, none⟩ = some (.slice jP l1_1.length jQ)) (ds := []) #[false, false, false, false, false, false, false, false, false, false, false, false, false, false, false] (by kernel_rfl) rfl rfl ⟨(blk_cell jb.out 0).trans rfl, (blk_cell jb.out 1).trans rfl, (blk_cell ja.out 0).trans rfl, (blk_cell ja.out 1).trans rfl⟩ (fun hHeld => ?_); refine with_tabW whole_Floor.tab4 whole_Floor.bits4 (fun HT_ HW_ => ?_)
  generalize Xa.drew = XC at jk jl jb ja jd jf HB hHeld ⊢
  refine pure_ (i := 0) (N := some 26) (v := ?_) (a' := ?_) #[true, false, false, false, false, false, false, false, false, false, false, false, false, false, false] rfl rfl (any_of HT_.out (by kernel_rfl)) (fun _ _ _ h => h) (Or.inl ⟨by rfl, ?_⟩) ?_ ?_
  rotate_left
  ·
   intro w'
   go_simp
   with_reducible rfl
  rotate_left
  ·
   simp only [Act.put, sI_, s0_, s1_, i64_w, i32_w]
   rfl
  refine pure_ (i := 2) (N := some 28) (v := ?_) (a' := ?_) #[true, false, true, false, false, false, false, false, false, false, false, false, false, false, false] rfl rfl (any_of HT_.out (by kernel_rfl)) (fun _ _ _ h => h) (Or.inl ⟨by rfl, ?_⟩) ?_ ?_
  rotate_left
  ·
   intro w'
   go_simp
   with_reducible rfl
  rotate_left
  ·
   simp only [Act.put, sI_, s0_, s1_, i64_w, i32_w]
   rfl
  refine pure_ (i := 5) (N := some 31) (v := ?_) (a' := ?_) #[true, false, true, false, false, true, false, false, false, false, false, false, false, false, false] rfl rfl (any_of HT_.out (by kernel_rfl)) (fun _ _ _ h => h) (Or.inl ⟨by rfl, ?_⟩) ?_ ?_
  rotate_left
  ·
   intro w'
   go_simp
   with_reducible rfl
  rotate_left
  ·
   simp only [Act.put, sI_, s0_, s1_, i64_w, i32_w]
   rfl
  refine pure_ (i := 7) (N := some 33) (v := ?_) (a' := ?_) #[true, false, true, false, false, true, false, true, false, false, false, false, false, false, false] rfl rfl (any_of HT_.out (by kernel_rfl)) (fun _ _ _ h => h) (Or.inl ⟨by rfl, ?_⟩) ?_ ?_
  rotate_left
  ·
   intro w'
   go_simp
   with_reducible rfl
  rotate_left
  ·
   simp only [Act.put, sI_, s0_, s1_, i64_w, i32_w]
   rfl
  refine pure_ (i := 9) (N := some 35) (v := ?_) (a' := ?_) #[true, false, true, false, false, true, false, true, false, true, false, false, false, false, false] rfl rfl (any_of HT_.out (by kernel_rfl)) (fun _ _ _ h => h) (Or.inl ⟨by rfl, ?_⟩) ?_ ?_
  rotate_left
  ·
   intro w'
   go_simp
   with_reducible rfl
  rotate_left
  ·
   simp only [Act.put, sI_, s0_, s1_, i64_w, i32_w]
   rfl
  refine take_ (i := 1) (N := some 27) (v := ?_) (a' := ?_) #[true, true, true, false, false, true, false, true, false, true, false, false, false, false, false] rfl rfl (take_ofW HT_.out HW_.out (by kernel_rfl)) (fun _ _ _ h => h) (Or.inl ⟨by rfl, ?_⟩) hHeld ?_ ?_
  rotate_left
  ·
   rintro w' ⟨s0, s1, s2, s3⟩
   go_simp
   with_reducible rfl
  rotate_left
  ·
   simp only [Act.put, sI_, s0_, s1_, i64_w, i32_w]
   rfl
  refine take_ (i := 3) (N := some 29) (v := ?_) (a' := ?_) #[true, true, true, true, false, true, false, true, false, true, false, false, false, false, false] rfl rfl (take_ofW HT_.out HW_.out (by kernel_rfl)) (fun _ _ _ h => h) (Or.inl ⟨by rfl, ?_⟩) hHeld ?_ ?_
  rotate_left
  ·
   rintro w' ⟨s0, s1, s2, s3⟩
   go_simp
   with_reducible rfl
  rotate_left
  ·
   simp only [Act.put, sI_, s0_, s1_, i64_w, i32_w]
   rfl
  refine pure_ (i := 4) (N := some 30) (v := ?_) (a' := ?_) #[true, true, true, true, true, true, false, true, false, true, false, false, false, false, false] rfl rfl (any_of HT_.out (by kernel_rfl)) (fun _ _ _ h => h) (Or.inl ⟨by rfl, ?_⟩) ?_ ?_
  rotate_left
  ·
   intro w'
   go_simp
   with_reducible rfl
  rotate_left
  ·
   simp only [Act.put, sI_, s0_, s1_, i64_w, i32_w]
   rfl
  refine take_ (i := 8) (N := some 34) (v := ?_) (a' := ?_) #[true, true, true, true, true, true, false, true, true, true, false, false, false, false, false] rfl rfl (take_ofW HT_.out HW_.out (by kernel_rfl)) (fun _ _ _ h => h) (Or.inl ⟨by rfl, ?_⟩) hHeld ?_ ?_
  rotate_left
  ·
   rintro w' ⟨s0, s1, s2, s3⟩
   go_simp
   with_reducible rfl
  rotate_left
  ·
   simp only [Act.put, sI_, s0_, s1_, i64_w, i32_w]
   rfl
  refine join_ (σ := Value × Value × Nat × Nat) 2 #[true, true, true, true, true, true, true, true, true, true, true, true, true, false, false] (fun s_ => [(32, .agg #[.bool qe, s_.1]), (36, .agg #[.bool qo, s_.2.1]), (10, .pointer (some ⟨s_.2.2.1, 0, none⟩)), (11, .pointer (some ⟨s_.2.2.2, 0, none⟩))]) (fun s_ w' => (w'.cell? ⟨jh, 0, none⟩ = some (.bool a0_0) ∧ w'.cell? ⟨jh, 1, none⟩ = some (.slice jT l0_1.length jU) ∧ w'.cell? ⟨jg, 0, none⟩ = some (.bool a1_0) ∧ w'.cell? ⟨jg, 1, none⟩ = some (.slice jP l1_1.length jQ)) ∧ (Kd.R (Kd.int .u32) 78 w' w.heap.size (fun k_ => some k_ ≠ (.slice jN jH.length jO : Value).ownBlock ∧ some k_ ≠ (s_.1 : Value).ownBlock ∧ some k_ ≠ (s_.2.1 : Value).ownBlock) (.slice jL jG.length jM) jG) ∧ (Kd.R (Kd.int .u32) 78 w' w.heap.size (fun k_ => some k_ ≠ (.slice jL jG.length jM : Value).ownBlock ∧ some k_ ≠ (s_.1 : Value).ownBlock ∧ some k_ ≠ (s_.2.1 : Value).ownBlock) (.slice jN jH.length jO) jH) ∧ (Kd.R (Kd.int .u32) 78 w' w.heap.size (fun k_ => some k_ ≠ (.slice jL jG.length jM : Value).ownBlock ∧ some k_ ≠ (.slice jN jH.length jO : Value).ownBlock ∧ some k_ ≠ (s_.2.1 : Value).ownBlock) s_.1 jW) ∧ (Kd.R (Kd.int .u32) 78 w' w.heap.size (fun k_ => some k_ ≠ (.slice jL jG.length jM : Value).ownBlock ∧ some k_ ≠ (.slice jN jH.length jO : Value).ownBlock ∧ some k_ ≠ (s_.1 : Value).ownBlock) s_.2.1 jZ) ∧ (w'.heap[jh]? = some (.cells #[.bool a0_0, .slice jT l0_1.length jU] 25 (0, 0))) ∧ (w'.heap[jg]? = some (.cells #[.bool a1_0, .slice jP l1_1.length jQ] 25 (0, 0))) ∧ (w'.heap[ji]? = some (.cells #[.bool false, .slice none 0 0] 25 (0, 0))) ∧ (w'.heap[jj]? = some (.cells #[.bool false, .slice none 0 0] 25 (0, 0))) ∧ (w'.heap[s_.2.2.1]? = some (.cells #[.bool false, .slice none 0 0] 25 (0, 0))) ∧ (w'.heap[s_.2.2.2]? = some (.cells #[.bool false, .slice none 0 0] 25 (0, 0))) ∧ (w.heap.size ≤ s_.2.2.1) ∧ (w.heap.size ≤ s_.2.2.1) ∧ (jh ≠ s_.2.2.1) ∧ (s_.2.2.1 ≠ jh) ∧ (jg ≠ s_.2.2.1) ∧ (s_.2.2.1 ≠ jg) ∧ (ji ≠ s_.2.2.1) ∧ (s_.2.2.1 ≠ ji) ∧ (jj ≠ s_.2.2.1) ∧ (s_.2.2.1 ≠ jj) ∧ (s_.2.2.2 ≠ s_.2.2.1) ∧ (s_.2.2.1 ≠ s_.2.2.2) ∧ (w.heap.size ≤ s_.2.2.2) ∧ (w.heap.size ≤ s_.2.2.2) ∧ (jh ≠ s_.2.2.2) ∧ (s_.2.2.2 ≠ jh) ∧ (jg ≠ s_.2.2.2) ∧ (s_.2.2.2 ≠ jg) ∧ (ji ≠ s_.2.2.2) ∧ (s_.2.2.2 ≠ ji) ∧ (jj ≠ s_.2.2.2) ∧ (s_.2.2.2 ≠ jj) ∧ (Below w.heap.size w w')) ?_ ?_
  rotate_left
  ·
   intro qx
   refine join_ (σ := Value × Value × Nat) 3 #[true, true, true, true, true, true, true, true, true, true, true, true, false, false, false] (fun s_ => [(32, .agg #[.bool qe, s_.1]), (36, .agg #[.bool qo, s_.2.1]), (10, .pointer (some ⟨s_.2.2, 0, none⟩))]) (fun s_ w' => (w'.cell? ⟨jh, 0, none⟩ = some (.bool a0_0) ∧ w'.cell? ⟨jh, 1, none⟩ = some (.slice jT l0_1.length jU) ∧ w'.cell? ⟨jg, 0, none⟩ = some (.bool a1_0) ∧ w'.cell? ⟨jg, 1, none⟩ = some (.slice jP l1_1.length jQ)) ∧ (Kd.R (Kd.int .u32) 78 w' w.heap.size (fun k_ => some k_ ≠ (.slice jN jH.length jO : Value).ownBlock ∧ some k_ ≠ (s_.1 : Value).ownBlock ∧ some k_ ≠ (s_.2.1 : Value).ownBlock) (.slice jL jG.length jM) jG) ∧ (Kd.R (Kd.int .u32) 78 w' w.heap.size (fun k_ => some k_ ≠ (.slice jL jG.length jM : Value).ownBlock ∧ some k_ ≠ (s_.1 : Value).ownBlock ∧ some k_ ≠ (s_.2.1 : Value).ownBlock) (.slice jN jH.length jO) jH) ∧ (Kd.R (Kd.int .u32) 78 w' w.heap.size (fun k_ => some k_ ≠ (.slice jL jG.length jM : Value).ownBlock ∧ some k_ ≠ (.slice jN jH.length jO : Value).ownBlock ∧ some k_ ≠ (s_.2.1 : Value).ownBlock) s_.1 jW) ∧ (Kd.R (Kd.int .u32) 78 w' w.heap.size (fun k_ => some k_ ≠ (.slice jL jG.length jM : Value).ownBlock ∧ some k_ ≠ (.slice jN jH.length jO : Value).ownBlock ∧ some k_ ≠ (s_.1 : Value).ownBlock) s_.2.1 jZ) ∧ (w'.heap[jh]? = some (.cells #[.bool a0_0, .slice jT l0_1.length jU] 25 (0, 0))) ∧ (w'.heap[jg]? = some (.cells #[.bool a1_0, .slice jP l1_1.length jQ] 25 (0, 0))) ∧ (w'.heap[ji]? = some (.cells #[.bool false, .slice none 0 0] 25 (0, 0))) ∧ (w'.heap[jj]? = some (.cells #[.bool false, .slice none 0 0] 25 (0, 0))) ∧ (w'.heap[s_.2.2]? = some (.cells #[.bool false, .slice none 0 0] 25 (0, 0))) ∧ (w.heap.size ≤ s_.2.2) ∧ (w.heap.size ≤ s_.2.2) ∧ (jh ≠ s_.2.2) ∧ (s_.2.2 ≠ jh) ∧ (jg ≠ s_.2.2) ∧ (s_.2.2 ≠ jg) ∧ (ji ≠ s_.2.2) ∧ (s_.2.2 ≠ ji) ∧ (jj ≠ s_.2.2) ∧ (s_.2.2 ≠ jj) ∧ (Below w.heap.size w w')) ?_ ?_
   rotate_left
   ·
    intro qF
    refine join_ (σ := Value × Value × Nat) 3 #[true, true, true, true, true, true, true, true, true, true, true, false, true, false, false] (fun s_ => [(32, .agg #[.bool qe, s_.1]), (36, .agg #[.bool qo, s_.2.1]), (11, .pointer (some ⟨s_.2.2, 0, none⟩))]) (fun s_ w' => (w'.cell? ⟨jh, 0, none⟩ = some (.bool a0_0) ∧ w'.cell? ⟨jh, 1, none⟩ = some (.slice jT l0_1.length jU) ∧ w'.cell? ⟨jg, 0, none⟩ = some (.bool a1_0) ∧ w'.cell? ⟨jg, 1, none⟩ = some (.slice jP l1_1.length jQ)) ∧ (Kd.R (Kd.int .u32) 78 w' w.heap.size (fun k_ => some k_ ≠ (.slice jN jH.length jO : Value).ownBlock ∧ some k_ ≠ (s_.1 : Value).ownBlock ∧ some k_ ≠ (s_.2.1 : Value).ownBlock) (.slice jL jG.length jM) jG) ∧ (Kd.R (Kd.int .u32) 78 w' w.heap.size (fun k_ => some k_ ≠ (.slice jL jG.length jM : Value).ownBlock ∧ some k_ ≠ (s_.1 : Value).ownBlock ∧ some k_ ≠ (s_.2.1 : Value).ownBlock) (.slice jN jH.length jO) jH) ∧ (Kd.R (Kd.int .u32) 78 w' w.heap.size (fun k_ => some k_ ≠ (.slice jL jG.length jM : Value).ownBlock ∧ some k_ ≠ (.slice jN jH.length jO : Value).ownBlock ∧ some k_ ≠ (s_.2.1 : Value).ownBlock) s_.1 jW) ∧ (Kd.R (Kd.int .u32) 78 w' w.heap.size (fun k_ => some k_ ≠ (.slice jL jG.length jM : Value).ownBlock ∧ some k_ ≠ (.slice jN jH.length jO : Value).ownBlock ∧ some k_ ≠ (s_.1 : Value).ownBlock) s_.2.1 jZ) ∧ (w'.heap[jh]? = some (.cells #[.bool a0_0, .slice jT l0_1.length jU] 25 (0, 0))) ∧ (w'.heap[jg]? = some (.cells #[.bool a1_0, .slice jP l1_1.length jQ] 25 (0, 0))) ∧ (w'.heap[ji]? = some (.cells #[.bool false, .slice none 0 0] 25 (0, 0))) ∧ (w'.heap[jj]? = some (.cells #[.bool false, .slice none 0 0] 25 (0, 0))) ∧ (w'.heap[s_.2.2]? = some (.cells #[.bool false, .slice none 0 0] 25 (0, 0))) ∧ (w.heap.size ≤ s_.2.2) ∧ (w.heap.size ≤ s_.2.2) ∧ (jh ≠ s_.2.2) ∧ (s_.2.2 ≠ jh) ∧ (jg ≠ s_.2.2) ∧ (s_.2.2 ≠ jg) ∧ (ji ≠ s_.2.2) ∧ (s_.2.2 ≠ ji) ∧ (jj ≠ s_.2.2) ∧ (s_.2.2 ≠ jj) ∧ (Below w.heap.size w w')) ?_ ?_
    rotate_left
    ·
     intro qG
     refine join_ (σ := Value × Nat × Nat) 3 #[true, true, true, true, true, true, true, true, true, true, false, true, true, false, false] (fun s_ => [(32, .agg #[.bool qe, s_.1]), (10, .pointer (some ⟨s_.2.1, 0, none⟩)), (11, .pointer (some ⟨s_.2.2, 0, none⟩))]) (fun s_ w' => (w'.cell? ⟨jh, 0, none⟩ = some (.bool a0_0) ∧ w'.cell? ⟨jh, 1, none⟩ = some (.slice jT l0_1.length jU) ∧ w'.cell? ⟨jg, 0, none⟩ = some (.bool a1_0) ∧ w'.cell? ⟨jg, 1, none⟩ = some (.slice jP l1_1.length jQ)) ∧ (Kd.R (Kd.int .u32) 78 w' w.heap.size (fun k_ => some k_ ≠ (.slice jN jH.length jO : Value).ownBlock ∧ some k_ ≠ (s_.1 : Value).ownBlock) (.slice jL jG.length jM) jG) ∧ (Kd.R (Kd.int .u32) 78 w' w.heap.size (fun k_ => some k_ ≠ (.slice jL jG.length jM : Value).ownBlock ∧ some k_ ≠ (s_.1 : Value).ownBlock) (.slice jN jH.length jO) jH) ∧ (Kd.R (Kd.int .u32) 78 w' w.heap.size (fun k_ => some k_ ≠ (.slice jL jG.length jM : Value).ownBlock ∧ some k_ ≠ (.slice jN jH.length jO : Value).ownBlock) s_.1 jW) ∧ (w'.heap[jh]? = some (.cells #[.bool a0_0, .slice jT l0_1.length jU] 25 (0, 0))) ∧ (w'.heap[jg]? = some (.cells #[.bool a1_0, .slice jP l1_1.length jQ] 25 (0, 0))) ∧ (w'.heap[ji]? = some (.cells #[.bool false, .slice none 0 0] 25 (0, 0))) ∧ (w'.heap[jj]? = some (.cells #[.bool false, .slice none 0 0] 25 (0, 0))) ∧ (w'.heap[s_.2.1]? = some (.cells #[.bool false, .slice none 0 0] 25 (0, 0))) ∧ (w'.heap[s_.2.2]? = some (.cells #[.bool false, .slice none 0 0] 25 (0, 0))) ∧ (w.heap.size ≤ s_.2.1) ∧ (w.heap.size ≤ s_.2.1) ∧ (jh ≠ s_.2.1) ∧ (s_.2.1 ≠ jh) ∧ (jg ≠ s_.2.1) ∧ (s_.2.1 ≠ jg) ∧ (ji ≠ s_.2.1) ∧ (s_.2.1 ≠ ji) ∧ (jj ≠ s_.2.1) ∧ (s_.2.1 ≠ jj) ∧ (s_.2.2 ≠ s_.2.1) ∧ (s_.2.1 ≠ s_.2.2) ∧ (w.heap.size ≤ s_.2.2) ∧ (w.heap.size ≤ s_.2.2) ∧ (jh ≠ s_.2.2) ∧ (s_.2.2 ≠ jh) ∧ (jg ≠ s_.2.2) ∧ (s_.2.2 ≠ jg) ∧ (ji ≠ s_.2.2) ∧ (s_.2.2 ≠ ji) ∧ (jj ≠ s_.2.2) ∧ (s_.2.2 ≠ jj) ∧ (Below w.heap.size w w')) ?_ ?_
     rotate_left
     ·
      intro qB
      refine join_ (σ := Value × Value) 4 #[true, true, true, true, true, true, true, true, true, true, true, false, false, false, false] (fun s_ => [(32, .agg #[.bool qe, s_.1]), (36, .agg #[.bool qo, s_.2])]) (fun s_ w' => (w'.cell? ⟨jh, 0, none⟩ = some (.bool a0_0) ∧ w'.cell? ⟨jh, 1, none⟩ = some (.slice jT l0_1.length jU) ∧ w'.cell? ⟨jg, 0, none⟩ = some (.bool a1_0) ∧ w'.cell? ⟨jg, 1, none⟩ = some (.slice jP l1_1.length jQ)) ∧ (Kd.R (Kd.int .u32) 78 w' w.heap.size (fun k_ => some k_ ≠ (.slice jN jH.length jO : Value).ownBlock ∧ some k_ ≠ (s_.1 : Value).ownBlock ∧ some k_ ≠ (s_.2 : Value).ownBlock) (.slice jL jG.length jM) jG) ∧ (Kd.R (Kd.int .u32) 78 w' w.heap.size (fun k_ => some k_ ≠ (.slice jL jG.length jM : Value).ownBlock ∧ some k_ ≠ (s_.1 : Value).ownBlock ∧ some k_ ≠ (s_.2 : Value).ownBlock) (.slice jN jH.length jO) jH) ∧ (Kd.R (Kd.int .u32) 78 w' w.heap.size (fun k_ => some k_ ≠ (.slice jL jG.length jM : Value).ownBlock ∧ some k_ ≠ (.slice jN jH.length jO : Value).ownBlock ∧ some k_ ≠ (s_.2 : Value).ownBlock) s_.1 jW) ∧ (Kd.R (Kd.int .u32) 78 w' w.heap.size (fun k_ => some k_ ≠ (.slice jL jG.length jM : Value).ownBlock ∧ some k_ ≠ (.slice jN jH.length jO : Value).ownBlock ∧ some k_ ≠ (s_.1 : Value).ownBlock) s_.2 jZ) ∧ (w'.heap[jh]? = some (.cells #[.bool a0_0, .slice jT l0_1.length jU] 25 (0, 0))) ∧ (w'.heap[jg]? = some (.cells #[.bool a1_0, .slice jP l1_1.length jQ] 25 (0, 0))) ∧ (w'.heap[ji]? = some (.cells #[.bool false, .slice none 0 0] 25 (0, 0))) ∧ (w'.heap[jj]? = some (.cells #[.bool false, .slice none 0 0] 25 (0, 0))) ∧ (Below w.heap.size w w')) ?_ ?_
      rotate_left
      ·
       intro q5
       refine join_ (σ := Value × Nat) 4 #[true, true, true, true, true, true, true, true, true, true, false, true, false, false, false] (fun s_ => [(32, .agg #[.bool qe, s_.1]), (10, .pointer (some ⟨s_.2, 0, none⟩))]) (fun s_ w' => (w'.cell? ⟨jh, 0, none⟩ = some (.bool a0_0) ∧ w'.cell? ⟨jh, 1, none⟩ = some (.slice jT l0_1.length jU) ∧ w'.cell? ⟨jg, 0, none⟩ = some (.bool a1_0) ∧ w'.cell? ⟨jg, 1, none⟩ = some (.slice jP l1_1.length jQ)) ∧ (Kd.R (Kd.int .u32) 78 w' w.heap.size (fun k_ => some k_ ≠ (.slice jN jH.length jO : Value).ownBlock ∧ some k_ ≠ (s_.1 : Value).ownBlock) (.slice jL jG.length jM) jG) ∧ (Kd.R (Kd.int .u32) 78 w' w.heap.size (fun k_ => some k_ ≠ (.slice jL jG.length jM : Value).ownBlock ∧ some k_ ≠ (s_.1 : Value).ownBlock) (.slice jN jH.length jO) jH) ∧ (Kd.R (Kd.int .u32) 78 w' w.heap.size (fun k_ => some k_ ≠ (.slice jL jG.length jM : Value).ownBlock ∧ some k_ ≠ (.slice jN jH.length jO : Value).ownBlock) s_.1 jW) ∧ (w'.heap[jh]? = some (.cells #[.bool a0_0, .slice jT l0_1.length jU] 25 (0, 0))) ∧ (w'.heap[jg]? = some (.cells #[.bool a1_0, .slice jP l1_1.length jQ] 25 (0, 0))) ∧ (w'.heap[ji]? = some (.cells #[.bool false, .slice none 0 0] 25 (0, 0))) ∧ (w'.heap[jj]? = some (.cells #[.bool false, .slice none 0 0] 25 (0, 0))) ∧ (w'.heap[s_.2]? = some (.cells #[.bool false, .slice none 0 0] 25 (0, 0))) ∧ (w.heap.size ≤ s_.2) ∧ (w.heap.size ≤ s_.2) ∧ (jh ≠ s_.2) ∧ (s_.2 ≠ jh) ∧ (jg ≠ s_.2) ∧ (s_.2 ≠ jg) ∧ (ji ≠ s_.2) ∧ (s_.2 ≠ ji) ∧ (jj ≠ s_.2) ∧ (s_.2 ≠ jj) ∧ (Below w.heap.size w w')) ?_ ?_
       rotate_left
       ·
        intro qX
        refine join_ (σ := Value × Nat) 4 #[true, true, true, true, true, true, true, true, true, true, false, false, true, false, false] (fun s_ => [(32, .agg #[.bool qe, s_.1]), (11, .pointer (some ⟨s_.2, 0, none⟩))]) (fun s_ w' => (w'.cell? ⟨jh, 0, none⟩ = some (.bool a0_0) ∧ w'.cell? ⟨jh, 1, none⟩ = some (.slice jT l0_1.length jU) ∧ w'.cell? ⟨jg, 0, none⟩ = some (.bool a1_0) ∧ w'.cell? ⟨jg, 1, none⟩ = some (.slice jP l1_1.length jQ)) ∧ (Kd.R (Kd.int .u32) 78 w' w.heap.size (fun k_ => some k_ ≠ (.slice jN jH.length jO : Value).ownBlock ∧ some k_ ≠ (s_.1 : Value).ownBlock) (.slice jL jG.length jM) jG) ∧ (Kd.R (Kd.int .u32) 78 w' w.heap.size (fun k_ => some k_ ≠ (.slice jL jG.length jM : Value).ownBlock ∧ some k_ ≠ (s_.1 : Value).ownBlock) (.slice jN jH.length jO) jH) ∧ (Kd.R (Kd.int .u32) 78 w' w.heap.size (fun k_ => some k_ ≠ (.slice jL jG.length jM : Value).ownBlock ∧ some k_ ≠ (.slice jN jH.length jO : Value).ownBlock) s_.1 jW) ∧ (w'.heap[jh]? = some (.cells #[.bool a0_0, .slice jT l0_1.length jU] 25 (0, 0))) ∧ (w'.heap[jg]? = some (.cells #[.bool a1_0, .slice jP l1_1.length jQ] 25 (0, 0))) ∧ (w'.heap[ji]? = some (.cells #[.bool false, .slice none 0 0] 25 (0, 0))) ∧ (w'.heap[jj]? = some (.cells #[.bool false, .slice none 0 0] 25 (0, 0))) ∧ (w'.heap[s_.2]? = some (.cells #[.bool false, .slice none 0 0] 25 (0, 0))) ∧ (w.heap.size ≤ s_.2) ∧ (w.heap.size ≤ s_.2) ∧ (jh ≠ s_.2) ∧ (s_.2 ≠ jh) ∧ (jg ≠ s_.2) ∧ (s_.2 ≠ jg) ∧ (ji ≠ s_.2) ∧ (s_.2 ≠ ji) ∧ (jj ≠ s_.2) ∧ (s_.2 ≠ jj) ∧ (Below w.heap.size w w')) ?_ ?_
        rotate_left
        ·
         intro qY
         refine join_ (σ := Nat × Nat) 4 #[true, true, true, true, true, true, false, true, true, true, false, true, true, false, false] (fun s_ => [(10, .pointer (some ⟨s_.1, 0, none⟩)), (11, .pointer (some ⟨s_.2, 0, none⟩))]) (fun s_ w' => (w'.cell? ⟨jh, 0, none⟩ = some (.bool a0_0) ∧ w'.cell? ⟨jh, 1, none⟩ = some (.slice jT l0_1.length jU) ∧ w'.cell? ⟨jg, 0, none⟩ = some (.bool a1_0) ∧ w'.cell? ⟨jg, 1, none⟩ = some (.slice jP l1_1.length jQ)) ∧ (Kd.R (Kd.int .u32) 78 w' w.heap.size (fun k_ => some k_ ≠ (.slice jN jH.length jO : Value).ownBlock) (.slice jL jG.length jM) jG) ∧ (Kd.R (Kd.int .u32) 78 w' w.heap.size (fun k_ => some k_ ≠ (.slice jL jG.length jM : Value).ownBlock) (.slice jN jH.length jO) jH) ∧ (w'.heap[jh]? = some (.cells #[.bool a0_0, .slice jT l0_1.length jU] 25 (0, 0))) ∧ (w'.heap[jg]? = some (.cells #[.bool a1_0, .slice jP l1_1.length jQ] 25 (0, 0))) ∧ (w'.heap[ji]? = some (.cells #[.bool false, .slice none 0 0] 25 (0, 0))) ∧ (w'.heap[jj]? = some (.cells #[.bool false, .slice none 0 0] 25 (0, 0))) ∧ (w'.heap[s_.1]? = some (.cells #[.bool false, .slice none 0 0] 25 (0, 0))) ∧ (w'.heap[s_.2]? = some (.cells #[.bool false, .slice none 0 0] 25 (0, 0))) ∧ (w.heap.size ≤ s_.1) ∧ (w.heap.size ≤ s_.1) ∧ (jh ≠ s_.1) ∧ (s_.1 ≠ jh) ∧ (jg ≠ s_.1) ∧ (s_.1 ≠ jg) ∧ (ji ≠ s_.1) ∧ (s_.1 ≠ ji) ∧ (jj ≠ s_.1) ∧ (s_.1 ≠ jj) ∧ (s_.2 ≠ s_.1) ∧ (s_.1 ≠ s_.2) ∧ (w.heap.size ≤ s_.2) ∧ (w.heap.size ≤ s_.2) ∧ (jh ≠ s_.2) ∧ (s_.2 ≠ jh) ∧ (jg ≠ s_.2) ∧ (s_.2 ≠ jg) ∧ (ji ≠ s_.2) ∧ (s_.2 ≠ ji) ∧ (jj ≠ s_.2) ∧ (s_.2 ≠ jj) ∧ (Below w.heap.size w w')) ?_ ?_
         rotate_left
         ·
          intro qT
          refine join_ (σ := Value) 5 #[true, true, true, true, true, true, true, true, true, true, false, false, false, false, false] (fun s_ => [(32, .agg #[.bool qe, s_])]) (fun s_ w' => (w'.cell? ⟨jh, 0, none⟩ = some (.bool a0_0) ∧ w'.cell? ⟨jh, 1, none⟩ = some (.slice jT l0_1.length jU) ∧ w'.cell? ⟨jg, 0, none⟩ = some (.bool a1_0) ∧ w'.cell? ⟨jg, 1, none⟩ = some (.slice jP l1_1.length jQ)) ∧ (Kd.R (Kd.int .u32) 78 w' w.heap.size (fun k_ => some k_ ≠ (.slice jN jH.length jO : Value).ownBlock ∧ some k_ ≠ (s_ : Value).ownBlock) (.slice jL jG.length jM) jG) ∧ (Kd.R (Kd.int .u32) 78 w' w.heap.size (fun k_ => some k_ ≠ (.slice jL jG.length jM : Value).ownBlock ∧ some k_ ≠ (s_ : Value).ownBlock) (.slice jN jH.length jO) jH) ∧ (Kd.R (Kd.int .u32) 78 w' w.heap.size (fun k_ => some k_ ≠ (.slice jL jG.length jM : Value).ownBlock ∧ some k_ ≠ (.slice jN jH.length jO : Value).ownBlock) s_ jW) ∧ (w'.heap[jh]? = some (.cells #[.bool a0_0, .slice jT l0_1.length jU] 25 (0, 0))) ∧ (w'.heap[jg]? = some (.cells #[.bool a1_0, .slice jP l1_1.length jQ] 25 (0, 0))) ∧ (w'.heap[ji]? = some (.cells #[.bool false, .slice none 0 0] 25 (0, 0))) ∧ (w'.heap[jj]? = some (.cells #[.bool false, .slice none 0 0] 25 (0, 0))) ∧ (Below w.heap.size w w')) ?_ ?_
          rotate_left
          ·
           intro Xb
           refine join_ (σ := Nat) 5 #[true, true, true, true, true, true, false, true, true, true, false, true, false, false, false] (fun s_ => [(10, .pointer (some ⟨s_, 0, none⟩))]) (fun s_ w' => (w'.cell? ⟨jh, 0, none⟩ = some (.bool a0_0) ∧ w'.cell? ⟨jh, 1, none⟩ = some (.slice jT l0_1.length jU) ∧ w'.cell? ⟨jg, 0, none⟩ = some (.bool a1_0) ∧ w'.cell? ⟨jg, 1, none⟩ = some (.slice jP l1_1.length jQ)) ∧ (Kd.R (Kd.int .u32) 78 w' w.heap.size (fun k_ => some k_ ≠ (.slice jN jH.length jO : Value).ownBlock) (.slice jL jG.length jM) jG) ∧ (Kd.R (Kd.int .u32) 78 w' w.heap.size (fun k_ => some k_ ≠ (.slice jL jG.length jM : Value).ownBlock) (.slice jN jH.length jO) jH) ∧ (w'.heap[jh]? = some (.cells #[.bool a0_0, .slice jT l0_1.length jU] 25 (0, 0))) ∧ (w'.heap[jg]? = some (.cells #[.bool a1_0, .slice jP l1_1.length jQ] 25 (0, 0))) ∧ (w'.heap[ji]? = some (.cells #[.bool false, .slice none 0 0] 25 (0, 0))) ∧ (w'.heap[jj]? = some (.cells #[.bool false, .slice none 0 0] 25 (0, 0))) ∧ (w'.heap[s_]? = some (.cells #[.bool false, .slice none 0 0] 25 (0, 0))) ∧ (w.heap.size ≤ s_) ∧ (w.heap.size ≤ s_) ∧ (jh ≠ s_) ∧ (s_ ≠ jh) ∧ (jg ≠ s_) ∧ (s_ ≠ jg) ∧ (ji ≠ s_) ∧ (s_ ≠ ji) ∧ (jj ≠ s_) ∧ (s_ ≠ jj) ∧ (Below w.heap.size w w')) ?_ ?_
           rotate_left
           ·
            intro z4
            refine join_ (σ := Nat) 5 #[true, true, true, true, true, true, false, true, true, true, false, false, true, false, false] (fun s_ => [(11, .pointer (some ⟨s_, 0, none⟩))]) (fun s_ w' => (w'.cell? ⟨jh, 0, none⟩ = some (.bool a0_0) ∧ w'.cell? ⟨jh, 1, none⟩ = some (.slice jT l0_1.length jU) ∧ w'.cell? ⟨jg, 0, none⟩ = some (.bool a1_0) ∧ w'.cell? ⟨jg, 1, none⟩ = some (.slice jP l1_1.length jQ)) ∧ (Kd.R (Kd.int .u32) 78 w' w.heap.size (fun k_ => some k_ ≠ (.slice jN jH.length jO : Value).ownBlock) (.slice jL jG.length jM) jG) ∧ (Kd.R (Kd.int .u32) 78 w' w.heap.size (fun k_ => some k_ ≠ (.slice jL jG.length jM : Value).ownBlock) (.slice jN jH.length jO) jH) ∧ (w'.heap[jh]? = some (.cells #[.bool a0_0, .slice jT l0_1.length jU] 25 (0, 0))) ∧ (w'.heap[jg]? = some (.cells #[.bool a1_0, .slice jP l1_1.length jQ] 25 (0, 0))) ∧ (w'.heap[ji]? = some (.cells #[.bool false, .slice none 0 0] 25 (0, 0))) ∧ (w'.heap[jj]? = some (.cells #[.bool false, .slice none 0 0] 25 (0, 0))) ∧ (w'.heap[s_]? = some (.cells #[.bool false, .slice none 0 0] 25 (0, 0))) ∧ (w.heap.size ≤ s_) ∧ (w.heap.size ≤ s_) ∧ (jh ≠ s_) ∧ (s_ ≠ jh) ∧ (jg ≠ s_) ∧ (s_ ≠ jg) ∧ (ji ≠ s_) ∧ (s_ ≠ ji) ∧ (jj ≠ s_) ∧ (s_ ≠ jj) ∧ (Below w.heap.size w w')) ?_ ?_
            rotate_left
            ·
             intro z5
             refine three_ (i := 6) (j := 11) (k := 12) (Ni := some 32) (Nj := some 10) (Nk := some 11) #[true, true, true, true, true, true, true, true, true, true, false, false, false, false, false] #[true, true, true, true, true, true, false, true, true, true, false, true, false, false, false] #[true, true, true, true, true, true, false, true, true, true, false, false, true, false, false] rfl rfl rfl rfl rfl rfl (three_of HT_.out (by kernel_rfl)) (by decide) (by decide) (by decide) (fun K hK => ?_) (fun K hK => ?_) (fun K hK => ?_)
             ·
              skip
              refine goes_ Try.func47 (by kernel_rfl) rfl #[.bool (a0_0 != a1_0), .slice jL jG.length jM] (by rfl) rfl rfl (by (try simp only [List.map_toArray, List.map_cons, List.map_nil]); rfl) ?_
              with_reducible refine (whole_norm.calls k (a0_0 != a1_0) _ _ jG qe jW _ ?side1 ?side2 A5.out).mono ?_
              (case side1 => exact (Kd.R_reads' jk.out).2.2)
              (case side2 => exact (Kd.R_reads' jk.out).2.1)
              rintro e ui ⟨jV, rfl, ho0, hb⟩
              refine ⟨_, rfl, ?_⟩
              have jK := am (Kd.R_lower (Kd.R_new' (Kd.R_new' ho0 (Kd.R_lt jk.out)) (Kd.R_lt jl.out)) (below_size HB.out))
              replace jk := am (Kd.R_elder' jk.out (Kd.R_base ho0) hb)
              replace jl := am (Kd.R_elder' jl.out (Kd.R_base ho0) hb)
              replace jb := am (blk_below jb.out hb)
              replace ja := am (blk_below ja.out hb)
              replace jd := am (blk_below jd.out hb)
              replace jf := am (blk_below jf.out hb)
              replace HB := am (below_step HB.out hb)
              try clear hb
              try clear ho0
              refine hK.out _ _ ⟨(blk_cell jb.out 0).trans rfl, (blk_cell jb.out 1).trans rfl, (blk_cell ja.out 0).trans rfl, (blk_cell ja.out 1).trans rfl⟩ (fun hHeld => ?_)
              clear hK K
              refine norm_ (a' := ?_) ?_ ?_
              rotate_left
              ·
               show Act.put _ (some 32) _ = _
               simp only [Act.put, sI_, s0_, s1_, i64_w, i32_w]
               rfl
              exact norm_ (by (simp only [putAll, Act.put, sI_, s0_, s1_]; done)) (Xb (jV) _ ⟨hHeld, jk.out, jl.out, (by exact Kd.R_mono jK.out (fun _ hk => ⟨hk.1.2, hk.2⟩)), jb.out, ja.out, jd.out, jf.out, HB.out⟩)
             ·
              skip
              refine box_step ?hg (N := 10) ?hd (cs := #[.bool false, .slice none 0 0]) (t := 25) ?hr ?_; (case hd => rfl); (case hg => rfl); (case hr => (go_simp; done))
              intro je hg ui hbox hb
              replace jk := am (Kd.R_below jk.out hb)
              replace jl := am (Kd.R_below jl.out hb)
              have jn := am hbox
              have j2 := am (gel hg HB.out)
              have jX := am (gel hg HB.out)
              replace HB := am (below_step HB.out hb)
              have jq := am (nel hg jb.out)
              have jC := am (ner hg jb.out)
              replace jb := am (blk_below jb.out hb)
              have jr := am (nel hg ja.out)
              have jD := am (ner hg ja.out)
              replace ja := am (blk_below ja.out hb)
              have jy := am (nel hg jd.out)
              have js := am (ner hg jd.out)
              replace jd := am (blk_below jd.out hb)
              have jz := am (nel hg jf.out)
              have jt := am (ner hg jf.out)
              replace jf := am (blk_below jf.out hb)
              clear hb hbox hg
              refine hK.out _ _ ⟨(blk_cell jb.out 0).trans rfl, (blk_cell jb.out 1).trans rfl, (blk_cell ja.out 0).trans rfl, (blk_cell ja.out 1).trans rfl⟩ (fun hHeld => ?_)
              clear hK K
              refine norm_ (a' := ?_) ?_ ?_
              rotate_left
              ·
               show Act.put _ (some 10) _ = _
               simp only [Act.put, sI_, s0_, s1_, i64_w, i32_w]
               rfl
              exact norm_ (by (simp only [putAll, Act.put, sI_, s0_, s1_]; done)) (z4 (je) _ ⟨hHeld, jk.out, jl.out, jb.out, ja.out, jd.out, jf.out, jn.out, j2.out, jX.out, jq.out, jC.out, jr.out, jD.out, jy.out, js.out, jz.out, jt.out, HB.out⟩)
             ·
              skip
              refine box_step ?hg (N := 11) ?hd (cs := #[.bool false, .slice none 0 0]) (t := 25) ?hr ?_; (case hd => rfl); (case hg => rfl); (case hr => (go_simp; done))
              intro jc hg ui hbox hb
              replace jk := am (Kd.R_below jk.out hb)
              replace jl := am (Kd.R_below jl.out hb)
              have jm := am hbox
              have j3 := am (gel hg HB.out)
              have jY := am (gel hg HB.out)
              replace HB := am (below_step HB.out hb)
              have ju := am (nel hg jb.out)
              have jE := am (ner hg jb.out)
              replace jb := am (blk_below jb.out hb)
              have jv := am (nel hg ja.out)
              have jF := am (ner hg ja.out)
              replace ja := am (blk_below ja.out hb)
              have jw := am (nel hg jd.out)
              have jo := am (ner hg jd.out)
              replace jd := am (blk_below jd.out hb)
              have jx := am (nel hg jf.out)
              have jp := am (ner hg jf.out)
              replace jf := am (blk_below jf.out hb)
              clear hb hbox hg
              refine hK.out _ _ ⟨(blk_cell jb.out 0).trans rfl, (blk_cell jb.out 1).trans rfl, (blk_cell ja.out 0).trans rfl, (blk_cell ja.out 1).trans rfl⟩ (fun hHeld => ?_)
              clear hK K
              refine norm_ (a' := ?_) ?_ ?_
              rotate_left
              ·
               show Act.put _ (some 11) _ = _
               simp only [Act.put, sI_, s0_, s1_, i64_w, i32_w]
               rfl
              exact norm_ (by (simp only [putAll, Act.put, sI_, s0_, s1_]; done)) (z5 (jc) _ ⟨hHeld, jk.out, jl.out, jb.out, ja.out, jd.out, jf.out, jm.out, j3.out, jY.out, ju.out, jE.out, jv.out, jF.out, jw.out, jo.out, jx.out, jp.out, HB.out⟩)
            ·
             skip
             rintro jc qy ⟨hS_, h0_, h1_, h2_, h3_, h4_, h5_, h6_, h7_, h8_, h9_, h10_, h11_, h12_, h13_, h14_, h15_, h16_, h17_⟩
             have n0_ : Aside0 (Kd.R (Kd.int .u32) 78 qy w.heap.size (fun k_ => some k_ ≠ (.slice jN jH.length jO : Value).ownBlock) (.slice jL jG.length jM) jG) := ⟨h0_⟩
             have n1_ : Aside0 (Kd.R (Kd.int .u32) 78 qy w.heap.size (fun k_ => some k_ ≠ (.slice jL jG.length jM : Value).ownBlock) (.slice jN jH.length jO) jH) := ⟨h1_⟩
             have n2_ : Aside0 (qy.heap[jh]? = some (.cells #[.bool a0_0, .slice jT l0_1.length jU] 25 (0, 0))) := ⟨h2_⟩
             have n3_ : Aside0 (qy.heap[jg]? = some (.cells #[.bool a1_0, .slice jP l1_1.length jQ] 25 (0, 0))) := ⟨h3_⟩
             have n4_ : Aside0 (qy.heap[ji]? = some (.cells #[.bool false, .slice none 0 0] 25 (0, 0))) := ⟨h4_⟩
             have n5_ : Aside0 (qy.heap[jj]? = some (.cells #[.bool false, .slice none 0 0] 25 (0, 0))) := ⟨h5_⟩
             have n6_ : Aside0 (qy.heap[jc]? = some (.cells #[.bool false, .slice none 0 0] 25 (0, 0))) := ⟨h6_⟩
             have n7_ : Aside0 (w.heap.size ≤ jc) := ⟨h7_⟩
             have n8_ : Aside0 (w.heap.size ≤ jc) := ⟨h8_⟩
             have n9_ : Aside0 (jh ≠ jc) := ⟨h9_⟩
             have n10_ : Aside0 (jc ≠ jh) := ⟨h10_⟩
             have n11_ : Aside0 (jg ≠ jc) := ⟨h11_⟩
             have n12_ : Aside0 (jc ≠ jg) := ⟨h12_⟩
             have n13_ : Aside0 (ji ≠ jc) := ⟨h13_⟩
             have n14_ : Aside0 (jc ≠ ji) := ⟨h14_⟩
             have n15_ : Aside0 (jj ≠ jc) := ⟨h15_⟩
             have n16_ : Aside0 (jc ≠ jj) := ⟨h16_⟩
             have n17_ : Aside0 (Below w.heap.size w qy) := ⟨h17_⟩
             clear jk
             clear jl
             clear jb
             clear ja
             clear jd
             clear jf
             clear HB
             clear h0_ h1_ h2_ h3_ h4_ h5_ h6_ h7_ h8_ h9_ h10_ h11_ h12_ h13_ h14_ h15_ h16_ h17_
             have jk := n0_
             have jl := n1_
             have jb := n2_
             have ja := n3_
             have jd := n4_
             have jf := n5_
             have jm := n6_
             have j3 := n7_
             have jY := n8_
             have ju := n9_
             have jE := n10_
             have jv := n11_
             have jF := n12_
             have jw := n13_
             have jo := n14_
             have jx := n15_
             have jp := n16_
             have HB := n17_
             clear n0_ n1_ n2_ n3_ n4_ n5_ n6_ n7_ n8_ n9_ n10_ n11_ n12_ n13_ n14_ n15_ n16_ n17_
             have hHeld : qy.cell? ⟨jh, 0, none⟩ = some (.bool a0_0) ∧ qy.cell? ⟨jh, 1, none⟩ = some (.slice jT l0_1.length jU) ∧ qy.cell? ⟨jg, 0, none⟩ = some (.bool a1_0) ∧ qy.cell? ⟨jg, 1, none⟩ = some (.slice jP l1_1.length jQ) := hS_
             refine norm_ (a' := ?_) ?_ ?_
             rotate_left
             ·
              simp only [putAll, Act.put, sI_, s0_, s1_]
              rfl
             refine two_ (i := 6) (j := 11) (Ni := some 32) (Nj := some 10) #[true, true, true, true, true, true, true, true, true, true, false, false, true, false, false] #[true, true, true, true, true, true, false, true, true, true, false, true, true, false, false] rfl rfl rfl rfl (two_of HT_.out (by kernel_rfl)) (by decide) (by decide) (fun K hK => ?_) (fun K hK => ?_)
             ·
              skip
              refine goes_ Try.func47 (by kernel_rfl) rfl #[.bool (a0_0 != a1_0), .slice jL jG.length jM] (by rfl) rfl rfl (by (try simp only [List.map_toArray, List.map_cons, List.map_nil]); rfl) ?_
              with_reducible refine (whole_norm.calls k (a0_0 != a1_0) _ _ jG qe jW _ ?side1 ?side2 A5.out).mono ?_
              (case side1 => exact (Kd.R_reads' jk.out).2.2)
              (case side2 => exact (Kd.R_reads' jk.out).2.1)
              rintro e qk ⟨jV, rfl, ho0, hb⟩
              refine ⟨_, rfl, ?_⟩
              have jK := am (Kd.R_lower (Kd.R_new' (Kd.R_new' ho0 (Kd.R_lt jk.out)) (Kd.R_lt jl.out)) (below_size HB.out))
              replace jk := am (Kd.R_elder' jk.out (Kd.R_base ho0) hb)
              replace jl := am (Kd.R_elder' jl.out (Kd.R_base ho0) hb)
              replace jb := am (blk_below jb.out hb)
              replace ja := am (blk_below ja.out hb)
              replace jd := am (blk_below jd.out hb)
              replace jf := am (blk_below jf.out hb)
              replace jm := am (blk_below jm.out hb)
              replace HB := am (below_step HB.out hb)
              try clear hb
              try clear ho0
              refine hK.out _ _ ⟨(blk_cell jb.out 0).trans rfl, (blk_cell jb.out 1).trans rfl, (blk_cell ja.out 0).trans rfl, (blk_cell ja.out 1).trans rfl⟩ (fun hHeld => ?_)
              clear hK K
              refine norm_ (a' := ?_) ?_ ?_
              rotate_left
              ·
               show Act.put _ (some 32) _ = _
               simp only [Act.put, sI_, s0_, s1_, i64_w, i32_w]
               rfl
              exact norm_ (by (simp only [putAll, Act.put, sI_, s0_, s1_]; done)) (qY (jV, jc) _ ⟨hHeld, jk.out, jl.out, (by exact Kd.R_mono jK.out (fun _ hk => ⟨hk.1.2, hk.2⟩)), jb.out, ja.out, jd.out, jf.out, jm.out, j3.out, jY.out, ju.out, jE.out, jv.out, jF.out, jw.out, jo.out, jx.out, jp.out, HB.out⟩)
             ·
              skip
              refine box_step ?hg (N := 10) ?hd (cs := #[.bool false, .slice none 0 0]) (t := 25) ?hr ?_; (case hd => rfl); (case hg => rfl); (case hr => (go_simp; done))
              intro je hg qk hbox hb
              replace jk := am (Kd.R_below jk.out hb)
              replace jl := am (Kd.R_below jl.out hb)
              have jn := am hbox
              have j2 := am (gel hg HB.out)
              have jX := am (gel hg HB.out)
              replace HB := am (below_step HB.out hb)
              have jq := am (nel hg jb.out)
              have jC := am (ner hg jb.out)
              replace jb := am (blk_below jb.out hb)
              have jr := am (nel hg ja.out)
              have jD := am (ner hg ja.out)
              replace ja := am (blk_below ja.out hb)
              have jy := am (nel hg jd.out)
              have js := am (ner hg jd.out)
              replace jd := am (blk_below jd.out hb)
              have jz := am (nel hg jf.out)
              have jt := am (ner hg jf.out)
              replace jf := am (blk_below jf.out hb)
              have jA := am (nel hg jm.out)
              have jB := am (ner hg jm.out)
              replace jm := am (blk_below jm.out hb)
              clear hb hbox hg
              refine hK.out _ _ ⟨(blk_cell jb.out 0).trans rfl, (blk_cell jb.out 1).trans rfl, (blk_cell ja.out 0).trans rfl, (blk_cell ja.out 1).trans rfl⟩ (fun hHeld => ?_)
              clear hK K
              refine norm_ (a' := ?_) ?_ ?_
              rotate_left
              ·
               show Act.put _ (some 10) _ = _
               simp only [Act.put, sI_, s0_, s1_, i64_w, i32_w]
               rfl
              exact norm_ (by (simp only [putAll, Act.put, sI_, s0_, s1_]; done)) (qT (je, jc) _ ⟨hHeld, jk.out, jl.out, jb.out, ja.out, jd.out, jf.out, jn.out, jm.out, j2.out, jX.out, jq.out, jC.out, jr.out, jD.out, jy.out, js.out, jz.out, jt.out, jA.out, jB.out, j3.out, jY.out, ju.out, jE.out, jv.out, jF.out, jw.out, jo.out, jx.out, jp.out, HB.out⟩)
           ·
            skip
            rintro je qy ⟨hS_, h0_, h1_, h2_, h3_, h4_, h5_, h6_, h7_, h8_, h9_, h10_, h11_, h12_, h13_, h14_, h15_, h16_, h17_⟩
            have n0_ : Aside0 (Kd.R (Kd.int .u32) 78 qy w.heap.size (fun k_ => some k_ ≠ (.slice jN jH.length jO : Value).ownBlock) (.slice jL jG.length jM) jG) := ⟨h0_⟩
            have n1_ : Aside0 (Kd.R (Kd.int .u32) 78 qy w.heap.size (fun k_ => some k_ ≠ (.slice jL jG.length jM : Value).ownBlock) (.slice jN jH.length jO) jH) := ⟨h1_⟩
            have n2_ : Aside0 (qy.heap[jh]? = some (.cells #[.bool a0_0, .slice jT l0_1.length jU] 25 (0, 0))) := ⟨h2_⟩
            have n3_ : Aside0 (qy.heap[jg]? = some (.cells #[.bool a1_0, .slice jP l1_1.length jQ] 25 (0, 0))) := ⟨h3_⟩
            have n4_ : Aside0 (qy.heap[ji]? = some (.cells #[.bool false, .slice none 0 0] 25 (0, 0))) := ⟨h4_⟩
            have n5_ : Aside0 (qy.heap[jj]? = some (.cells #[.bool false, .slice none 0 0] 25 (0, 0))) := ⟨h5_⟩
            have n6_ : Aside0 (qy.heap[je]? = some (.cells #[.bool false, .slice none 0 0] 25 (0, 0))) := ⟨h6_⟩
            have n7_ : Aside0 (w.heap.size ≤ je) := ⟨h7_⟩
            have n8_ : Aside0 (w.heap.size ≤ je) := ⟨h8_⟩
            have n9_ : Aside0 (jh ≠ je) := ⟨h9_⟩
            have n10_ : Aside0 (je ≠ jh) := ⟨h10_⟩
            have n11_ : Aside0 (jg ≠ je) := ⟨h11_⟩
            have n12_ : Aside0 (je ≠ jg) := ⟨h12_⟩
            have n13_ : Aside0 (ji ≠ je) := ⟨h13_⟩
            have n14_ : Aside0 (je ≠ ji) := ⟨h14_⟩
            have n15_ : Aside0 (jj ≠ je) := ⟨h15_⟩
            have n16_ : Aside0 (je ≠ jj) := ⟨h16_⟩
            have n17_ : Aside0 (Below w.heap.size w qy) := ⟨h17_⟩
            clear jk
            clear jl
            clear jb
            clear ja
            clear jd
            clear jf
            clear HB
            clear h0_ h1_ h2_ h3_ h4_ h5_ h6_ h7_ h8_ h9_ h10_ h11_ h12_ h13_ h14_ h15_ h16_ h17_
            have jk := n0_
            have jl := n1_
            have jb := n2_
            have ja := n3_
            have jd := n4_
            have jf := n5_
            have jn := n6_
            have j2 := n7_
            have jX := n8_
            have jq := n9_
            have jC := n10_
            have jr := n11_
            have jD := n12_
            have jy := n13_
            have js := n14_
            have jz := n15_
            have jt := n16_
            have HB := n17_
            clear n0_ n1_ n2_ n3_ n4_ n5_ n6_ n7_ n8_ n9_ n10_ n11_ n12_ n13_ n14_ n15_ n16_ n17_
            have hHeld : qy.cell? ⟨jh, 0, none⟩ = some (.bool a0_0) ∧ qy.cell? ⟨jh, 1, none⟩ = some (.slice jT l0_1.length jU) ∧ qy.cell? ⟨jg, 0, none⟩ = some (.bool a1_0) ∧ qy.cell? ⟨jg, 1, none⟩ = some (.slice jP l1_1.length jQ) := hS_
            refine norm_ (a' := ?_) ?_ ?_
            rotate_left
            ·
             simp only [putAll, Act.put, sI_, s0_, s1_]
             rfl
            refine two_ (i := 6) (j := 12) (Ni := some 32) (Nj := some 11) #[true, true, true, true, true, true, true, true, true, true, false, true, false, false, false] #[true, true, true, true, true, true, false, true, true, true, false, true, true, false, false] rfl rfl rfl rfl (two_of HT_.out (by kernel_rfl)) (by decide) (by decide) (fun K hK => ?_) (fun K hK => ?_)
            ·
             skip
             refine goes_ Try.func47 (by kernel_rfl) rfl #[.bool (a0_0 != a1_0), .slice jL jG.length jM] (by rfl) rfl rfl (by (try simp only [List.map_toArray, List.map_cons, List.map_nil]); rfl) ?_
             with_reducible refine (whole_norm.calls k (a0_0 != a1_0) _ _ jG qe jW _ ?side1 ?side2 A5.out).mono ?_
             (case side1 => exact (Kd.R_reads' jk.out).2.2)
             (case side2 => exact (Kd.R_reads' jk.out).2.1)
             rintro e qk ⟨jV, rfl, ho0, hb⟩
             refine ⟨_, rfl, ?_⟩
             have jK := am (Kd.R_lower (Kd.R_new' (Kd.R_new' ho0 (Kd.R_lt jk.out)) (Kd.R_lt jl.out)) (below_size HB.out))
             replace jk := am (Kd.R_elder' jk.out (Kd.R_base ho0) hb)
             replace jl := am (Kd.R_elder' jl.out (Kd.R_base ho0) hb)
             replace jb := am (blk_below jb.out hb)
             replace ja := am (blk_below ja.out hb)
             replace jd := am (blk_below jd.out hb)
             replace jf := am (blk_below jf.out hb)
             replace jn := am (blk_below jn.out hb)
             replace HB := am (below_step HB.out hb)
             try clear hb
             try clear ho0
             refine hK.out _ _ ⟨(blk_cell jb.out 0).trans rfl, (blk_cell jb.out 1).trans rfl, (blk_cell ja.out 0).trans rfl, (blk_cell ja.out 1).trans rfl⟩ (fun hHeld => ?_)
             clear hK K
             refine norm_ (a' := ?_) ?_ ?_
             rotate_left
             ·
              show Act.put _ (some 32) _ = _
              simp only [Act.put, sI_, s0_, s1_, i64_w, i32_w]
              rfl
             exact norm_ (by (simp only [putAll, Act.put, sI_, s0_, s1_]; done)) (qX (jV, je) _ ⟨hHeld, jk.out, jl.out, (by exact Kd.R_mono jK.out (fun _ hk => ⟨hk.1.2, hk.2⟩)), jb.out, ja.out, jd.out, jf.out, jn.out, j2.out, jX.out, jq.out, jC.out, jr.out, jD.out, jy.out, js.out, jz.out, jt.out, HB.out⟩)
            ·
             skip
             refine box_step ?hg (N := 11) ?hd (cs := #[.bool false, .slice none 0 0]) (t := 25) ?hr ?_; (case hd => rfl); (case hg => rfl); (case hr => (go_simp; done))
             intro jc hg qk hbox hb
             replace jk := am (Kd.R_below jk.out hb)
             replace jl := am (Kd.R_below jl.out hb)
             have jm := am hbox
             have j3 := am (gel hg HB.out)
             have jY := am (gel hg HB.out)
             replace HB := am (below_step HB.out hb)
             have ju := am (nel hg jb.out)
             have jE := am (ner hg jb.out)
             replace jb := am (blk_below jb.out hb)
             have jv := am (nel hg ja.out)
             have jF := am (ner hg ja.out)
             replace ja := am (blk_below ja.out hb)
             have jw := am (nel hg jd.out)
             have jo := am (ner hg jd.out)
             replace jd := am (blk_below jd.out hb)
             have jx := am (nel hg jf.out)
             have jp := am (ner hg jf.out)
             replace jf := am (blk_below jf.out hb)
             have jB := am (nel hg jn.out)
             have jA := am (ner hg jn.out)
             replace jn := am (blk_below jn.out hb)
             clear hb hbox hg
             refine hK.out _ _ ⟨(blk_cell jb.out 0).trans rfl, (blk_cell jb.out 1).trans rfl, (blk_cell ja.out 0).trans rfl, (blk_cell ja.out 1).trans rfl⟩ (fun hHeld => ?_)
             clear hK K
             refine norm_ (a' := ?_) ?_ ?_
             rotate_left
             ·
              show Act.put _ (some 11) _ = _
              simp only [Act.put, sI_, s0_, s1_, i64_w, i32_w]
              rfl
             exact norm_ (by (simp only [putAll, Act.put, sI_, s0_, s1_]; done)) (qT (je, jc) _ ⟨hHeld, jk.out, jl.out, jb.out, ja.out, jd.out, jf.out, jn.out, jm.out, j2.out, jX.out, jq.out, jC.out, jr.out, jD.out, jy.out, js.out, jz.out, jt.out, jA.out, jB.out, j3.out, jY.out, ju.out, jE.out, jv.out, jF.out, jw.out, jo.out, jx.out, jp.out, HB.out⟩)
          ·
           skip
           rintro jV qy ⟨hS_, h0_, h1_, h2_, h3_, h4_, h5_, h6_, h7_⟩
           have n0_ : Aside0 (Kd.R (Kd.int .u32) 78 qy w.heap.size (fun k_ => some k_ ≠ (.slice jN jH.length jO : Value).ownBlock ∧ some k_ ≠ (jV : Value).ownBlock) (.slice jL jG.length jM) jG) := ⟨h0_⟩
           have n1_ : Aside0 (Kd.R (Kd.int .u32) 78 qy w.heap.size (fun k_ => some k_ ≠ (.slice jL jG.length jM : Value).ownBlock ∧ some k_ ≠ (jV : Value).ownBlock) (.slice jN jH.length jO) jH) := ⟨h1_⟩
           have n2_ : Aside0 (Kd.R (Kd.int .u32) 78 qy w.heap.size (fun k_ => some k_ ≠ (.slice jL jG.length jM : Value).ownBlock ∧ some k_ ≠ (.slice jN jH.length jO : Value).ownBlock) jV jW) := ⟨h2_⟩
           have n3_ : Aside0 (qy.heap[jh]? = some (.cells #[.bool a0_0, .slice jT l0_1.length jU] 25 (0, 0))) := ⟨h3_⟩
           have n4_ : Aside0 (qy.heap[jg]? = some (.cells #[.bool a1_0, .slice jP l1_1.length jQ] 25 (0, 0))) := ⟨h4_⟩
           have n5_ : Aside0 (qy.heap[ji]? = some (.cells #[.bool false, .slice none 0 0] 25 (0, 0))) := ⟨h5_⟩
           have n6_ : Aside0 (qy.heap[jj]? = some (.cells #[.bool false, .slice none 0 0] 25 (0, 0))) := ⟨h6_⟩
           have n7_ : Aside0 (Below w.heap.size w qy) := ⟨h7_⟩
           clear jk
           clear jl
           clear jb
           clear ja
           clear jd
           clear jf
           clear HB
           clear h0_ h1_ h2_ h3_ h4_ h5_ h6_ h7_
           have jk := n0_
           have jl := n1_
           have jK := n2_
           have jb := n3_
           have ja := n4_
           have jd := n5_
           have jf := n6_
           have HB := n7_
           clear n0_ n1_ n2_ n3_ n4_ n5_ n6_ n7_
           have hHeld : qy.cell? ⟨jh, 0, none⟩ = some (.bool a0_0) ∧ qy.cell? ⟨jh, 1, none⟩ = some (.slice jT l0_1.length jU) ∧ qy.cell? ⟨jg, 0, none⟩ = some (.bool a1_0) ∧ qy.cell? ⟨jg, 1, none⟩ = some (.slice jP l1_1.length jQ) := hS_
           refine norm_ (a' := ?_) ?_ ?_
           rotate_left
           ·
            simp only [putAll, Act.put, sI_, s0_, s1_]
            rfl
           refine three_ (i := 10) (j := 11) (k := 12) (Ni := some 36) (Nj := some 10) (Nk := some 11) #[true, true, true, true, true, true, true, true, true, true, true, false, false, false, false] #[true, true, true, true, true, true, true, true, true, true, false, true, false, false, false] #[true, true, true, true, true, true, true, true, true, true, false, false, true, false, false] rfl rfl rfl rfl rfl rfl (three_of HT_.out (by kernel_rfl)) (by decide) (by decide) (by decide) (fun K hK => ?_) (fun K hK => ?_) (fun K hK => ?_)
           ·
            skip
            refine goes_ Try.func47 (by kernel_rfl) rfl #[.bool a0_0, .slice jN jH.length jO] (by rfl) rfl rfl (by (try simp only [List.map_toArray, List.map_cons, List.map_nil]); rfl) ?_
            with_reducible refine (whole_norm.calls k a0_0 _ _ jH qo jZ _ ?side1 ?side2 A6.out).mono ?_
            (case side1 => exact (Kd.R_reads' jl.out).2.2)
            (case side2 => exact (Kd.R_reads' jl.out).2.1)
            rintro e qk ⟨qf, rfl, ho0, hb⟩
            refine ⟨_, rfl, ?_⟩
            have j1 := am (Kd.R_lower (Kd.R_new' (Kd.R_new' (Kd.R_new' ho0 (Kd.R_lt jk.out)) (Kd.R_lt jl.out)) (Kd.R_lt jK.out)) (below_size HB.out))
            replace jk := am (Kd.R_elder' jk.out (Kd.R_base ho0) hb)
            replace jl := am (Kd.R_elder' jl.out (Kd.R_base ho0) hb)
            replace jK := am (Kd.R_elder' jK.out (Kd.R_base ho0) hb)
            replace jb := am (blk_below jb.out hb)
            replace ja := am (blk_below ja.out hb)
            replace jd := am (blk_below jd.out hb)
            replace jf := am (blk_below jf.out hb)
            replace HB := am (below_step HB.out hb)
            try clear hb
            try clear ho0
            refine hK.out _ _ ⟨(blk_cell jb.out 0).trans rfl, (blk_cell jb.out 1).trans rfl, (blk_cell ja.out 0).trans rfl, (blk_cell ja.out 1).trans rfl⟩ (fun hHeld => ?_)
            clear hK K
            refine norm_ (a' := ?_) ?_ ?_
            rotate_left
            ·
             show Act.put _ (some 36) _ = _
             simp only [Act.put, sI_, s0_, s1_, i64_w, i32_w]
             rfl
            exact norm_ (by (simp only [putAll, Act.put, sI_, s0_, s1_]; done)) (q5 (jV, qf) _ ⟨hHeld, (by exact Kd.R_mono jk.out (fun _ hk => ⟨hk.1.1, ⟨hk.1.2, hk.2⟩⟩)), (by exact Kd.R_mono jl.out (fun _ hk => ⟨hk.1.1, ⟨hk.1.2, hk.2⟩⟩)), (by exact Kd.R_mono jK.out (fun _ hk => ⟨hk.1.1, ⟨hk.1.2, hk.2⟩⟩)), (by exact Kd.R_mono j1.out (fun _ hk => ⟨hk.1.1.2, ⟨hk.1.2, hk.2⟩⟩)), jb.out, ja.out, jd.out, jf.out, HB.out⟩)
           ·
            skip
            refine box_step ?hg (N := 10) ?hd (cs := #[.bool false, .slice none 0 0]) (t := 25) ?hr ?_; (case hd => rfl); (case hg => rfl); (case hr => (go_simp; done))
            intro je hg qk hbox hb
            replace jk := am (Kd.R_below jk.out hb)
            replace jl := am (Kd.R_below jl.out hb)
            replace jK := am (Kd.R_below jK.out hb)
            have jn := am hbox
            have j2 := am (gel hg HB.out)
            have jX := am (gel hg HB.out)
            replace HB := am (below_step HB.out hb)
            have jq := am (nel hg jb.out)
            have jC := am (ner hg jb.out)
            replace jb := am (blk_below jb.out hb)
            have jr := am (nel hg ja.out)
            have jD := am (ner hg ja.out)
            replace ja := am (blk_below ja.out hb)
            have jy := am (nel hg jd.out)
            have js := am (ner hg jd.out)
            replace jd := am (blk_below jd.out hb)
            have jz := am (nel hg jf.out)
            have jt := am (ner hg jf.out)
            replace jf := am (blk_below jf.out hb)
            clear hb hbox hg
            refine hK.out _ _ ⟨(blk_cell jb.out 0).trans rfl, (blk_cell jb.out 1).trans rfl, (blk_cell ja.out 0).trans rfl, (blk_cell ja.out 1).trans rfl⟩ (fun hHeld => ?_)
            clear hK K
            refine norm_ (a' := ?_) ?_ ?_
            rotate_left
            ·
             show Act.put _ (some 10) _ = _
             simp only [Act.put, sI_, s0_, s1_, i64_w, i32_w]
             rfl
            exact norm_ (by (simp only [putAll, Act.put, sI_, s0_, s1_]; done)) (qX (jV, je) _ ⟨hHeld, jk.out, jl.out, jK.out, jb.out, ja.out, jd.out, jf.out, jn.out, j2.out, jX.out, jq.out, jC.out, jr.out, jD.out, jy.out, js.out, jz.out, jt.out, HB.out⟩)
           ·
            skip
            refine box_step ?hg (N := 11) ?hd (cs := #[.bool false, .slice none 0 0]) (t := 25) ?hr ?_; (case hd => rfl); (case hg => rfl); (case hr => (go_simp; done))
            intro jc hg qk hbox hb
            replace jk := am (Kd.R_below jk.out hb)
            replace jl := am (Kd.R_below jl.out hb)
            replace jK := am (Kd.R_below jK.out hb)
            have jm := am hbox
            have j3 := am (gel hg HB.out)
            have jY := am (gel hg HB.out)
            replace HB := am (below_step HB.out hb)
            have ju := am (nel hg jb.out)
            have jE := am (ner hg jb.out)
            replace jb := am (blk_below jb.out hb)
            have jv := am (nel hg ja.out)
            have jF := am (ner hg ja.out)
            replace ja := am (blk_below ja.out hb)
            have jw := am (nel hg jd.out)
            have jo := am (ner hg jd.out)
            replace jd := am (blk_below jd.out hb)
            have jx := am (nel hg jf.out)
            have jp := am (ner hg jf.out)
            replace jf := am (blk_below jf.out hb)
            clear hb hbox hg
            refine hK.out _ _ ⟨(blk_cell jb.out 0).trans rfl, (blk_cell jb.out 1).trans rfl, (blk_cell ja.out 0).trans rfl, (blk_cell ja.out 1).trans rfl⟩ (fun hHeld => ?_)
            clear hK K
            refine norm_ (a' := ?_) ?_ ?_
            rotate_left
            ·
             show Act.put _ (some 11) _ = _
             simp only [Act.put, sI_, s0_, s1_, i64_w, i32_w]
             rfl
            exact norm_ (by (simp only [putAll, Act.put, sI_, s0_, s1_]; done)) (qY (jV, jc) _ ⟨hHeld, jk.out, jl.out, jK.out, jb.out, ja.out, jd.out, jf.out, jm.out, j3.out, jY.out, ju.out, jE.out, jv.out, jF.out, jw.out, jo.out, jx.out, jp.out, HB.out⟩)
         ·
          skip
          rintro ⟨je, jc⟩ qk ⟨hS_, h0_, h1_, h2_, h3_, h4_, h5_, h6_, h7_, h8_, h9_, h10_, h11_, h12_, h13_, h14_, h15_, h16_, h17_, h18_, h19_, h20_, h21_, h22_, h23_, h24_, h25_, h26_, h27_, h28_, h29_, h30_⟩
          have n0_ : Aside0 (Kd.R (Kd.int .u32) 78 qk w.heap.size (fun k_ => some k_ ≠ (.slice jN jH.length jO : Value).ownBlock) (.slice jL jG.length jM) jG) := ⟨h0_⟩
          have n1_ : Aside0 (Kd.R (Kd.int .u32) 78 qk w.heap.size (fun k_ => some k_ ≠ (.slice jL jG.length jM : Value).ownBlock) (.slice jN jH.length jO) jH) := ⟨h1_⟩
          have n2_ : Aside0 (qk.heap[jh]? = some (.cells #[.bool a0_0, .slice jT l0_1.length jU] 25 (0, 0))) := ⟨h2_⟩
          have n3_ : Aside0 (qk.heap[jg]? = some (.cells #[.bool a1_0, .slice jP l1_1.length jQ] 25 (0, 0))) := ⟨h3_⟩
          have n4_ : Aside0 (qk.heap[ji]? = some (.cells #[.bool false, .slice none 0 0] 25 (0, 0))) := ⟨h4_⟩
          have n5_ : Aside0 (qk.heap[jj]? = some (.cells #[.bool false, .slice none 0 0] 25 (0, 0))) := ⟨h5_⟩
          have n6_ : Aside0 (qk.heap[je]? = some (.cells #[.bool false, .slice none 0 0] 25 (0, 0))) := ⟨h6_⟩
          have n7_ : Aside0 (qk.heap[jc]? = some (.cells #[.bool false, .slice none 0 0] 25 (0, 0))) := ⟨h7_⟩
          have n8_ : Aside0 (w.heap.size ≤ je) := ⟨h8_⟩
          have n9_ : Aside0 (w.heap.size ≤ je) := ⟨h9_⟩
          have n10_ : Aside0 (jh ≠ je) := ⟨h10_⟩
          have n11_ : Aside0 (je ≠ jh) := ⟨h11_⟩
          have n12_ : Aside0 (jg ≠ je) := ⟨h12_⟩
          have n13_ : Aside0 (je ≠ jg) := ⟨h13_⟩
          have n14_ : Aside0 (ji ≠ je) := ⟨h14_⟩
          have n15_ : Aside0 (je ≠ ji) := ⟨h15_⟩
          have n16_ : Aside0 (jj ≠ je) := ⟨h16_⟩
          have n17_ : Aside0 (je ≠ jj) := ⟨h17_⟩
          have n18_ : Aside0 (jc ≠ je) := ⟨h18_⟩
          have n19_ : Aside0 (je ≠ jc) := ⟨h19_⟩
          have n20_ : Aside0 (w.heap.size ≤ jc) := ⟨h20_⟩
          have n21_ : Aside0 (w.heap.size ≤ jc) := ⟨h21_⟩
          have n22_ : Aside0 (jh ≠ jc) := ⟨h22_⟩
          have n23_ : Aside0 (jc ≠ jh) := ⟨h23_⟩
          have n24_ : Aside0 (jg ≠ jc) := ⟨h24_⟩
          have n25_ : Aside0 (jc ≠ jg) := ⟨h25_⟩
          have n26_ : Aside0 (ji ≠ jc) := ⟨h26_⟩
          have n27_ : Aside0 (jc ≠ ji) := ⟨h27_⟩
          have n28_ : Aside0 (jj ≠ jc) := ⟨h28_⟩
          have n29_ : Aside0 (jc ≠ jj) := ⟨h29_⟩
          have n30_ : Aside0 (Below w.heap.size w qk) := ⟨h30_⟩
          clear jk
          clear jl
          clear jb
          clear ja
          clear jd
          clear jf
          clear HB
          clear h0_ h1_ h2_ h3_ h4_ h5_ h6_ h7_ h8_ h9_ h10_ h11_ h12_ h13_ h14_ h15_ h16_ h17_ h18_ h19_ h20_ h21_ h22_ h23_ h24_ h25_ h26_ h27_ h28_ h29_ h30_
          have jk := n0_
          have jl := n1_
          have jb := n2_
          have ja := n3_
          have jd := n4_
          have jf := n5_
          have jn := n6_
          have jm := n7_
          have j2 := n8_
          have jX := n9_
          have jq := n10_
          have jC := n11_
          have jr := n12_
          have jD := n13_
          have jy := n14_
          have js := n15_
          have jz := n16_
          have jt := n17_
          have jA := n18_
          have jB := n19_
          have j3 := n20_
          have jY := n21_
          have ju := n22_
          have jE := n23_
          have jv := n24_
          have jF := n25_
          have jw := n26_
          have jo := n27_
          have jx := n28_
          have jp := n29_
          have HB := n30_
          clear n0_ n1_ n2_ n3_ n4_ n5_ n6_ n7_ n8_ n9_ n10_ n11_ n12_ n13_ n14_ n15_ n16_ n17_ n18_ n19_ n20_ n21_ n22_ n23_ n24_ n25_ n26_ n27_ n28_ n29_ n30_
          have hHeld : qk.cell? ⟨jh, 0, none⟩ = some (.bool a0_0) ∧ qk.cell? ⟨jh, 1, none⟩ = some (.slice jT l0_1.length jU) ∧ qk.cell? ⟨jg, 0, none⟩ = some (.bool a1_0) ∧ qk.cell? ⟨jg, 1, none⟩ = some (.slice jP l1_1.length jQ) := hS_
          refine norm_ (a' := ?_) ?_ ?_
          rotate_left
          ·
           simp only [putAll, Act.put, sI_, s0_, s1_]
           rfl
          refine one_ (i := 6) (N := some 32) #[true, true, true, true, true, true, true, true, true, true, false, true, true, false, false] rfl rfl (one_of HT_.out (by kernel_rfl)) (by decide) (fun K hK => ?_)
          refine goes_ Try.func47 (by kernel_rfl) rfl #[.bool (a0_0 != a1_0), .slice jL jG.length jM] (by rfl) rfl rfl (by (try simp only [List.map_toArray, List.map_cons, List.map_nil]); rfl) ?_
          with_reducible refine (whole_norm.calls k (a0_0 != a1_0) _ _ jG qe jW _ ?side1 ?side2 A5.out).mono ?_
          (case side1 => exact (Kd.R_reads' jk.out).2.2)
          (case side2 => exact (Kd.R_reads' jk.out).2.1)
          rintro e qp ⟨jV, rfl, ho0, hb⟩
          refine ⟨_, rfl, ?_⟩
          have jK := am (Kd.R_lower (Kd.R_new' (Kd.R_new' ho0 (Kd.R_lt jk.out)) (Kd.R_lt jl.out)) (below_size HB.out))
          replace jk := am (Kd.R_elder' jk.out (Kd.R_base ho0) hb)
          replace jl := am (Kd.R_elder' jl.out (Kd.R_base ho0) hb)
          replace jb := am (blk_below jb.out hb)
          replace ja := am (blk_below ja.out hb)
          replace jd := am (blk_below jd.out hb)
          replace jf := am (blk_below jf.out hb)
          replace jn := am (blk_below jn.out hb)
          replace jm := am (blk_below jm.out hb)
          replace HB := am (below_step HB.out hb)
          try clear hb
          try clear ho0
          refine hK.out _ _ ⟨(blk_cell jb.out 0).trans rfl, (blk_cell jb.out 1).trans rfl, (blk_cell ja.out 0).trans rfl, (blk_cell ja.out 1).trans rfl⟩ (fun hHeld => ?_)
          clear hK K
          refine norm_ (a' := ?_) ?_ ?_
          rotate_left
          ·
           show Act.put _ (some 32) _ = _
           simp only [Act.put, sI_, s0_, s1_, i64_w, i32_w]
           rfl
          exact norm_ (by (simp only [putAll, Act.put, sI_, s0_, s1_]; done)) (qB (jV, je, jc) _ ⟨hHeld, jk.out, jl.out, (by exact Kd.R_mono jK.out (fun _ hk => ⟨hk.1.2, hk.2⟩)), jb.out, ja.out, jd.out, jf.out, jn.out, jm.out, j2.out, jX.out, jq.out, jC.out, jr.out, jD.out, jy.out, js.out, jz.out, jt.out, jA.out, jB.out, j3.out, jY.out, ju.out, jE.out, jv.out, jF.out, jw.out, jo.out, jx.out, jp.out, HB.out⟩)
        ·
         skip
         rintro ⟨jV, jc⟩ qk ⟨hS_, h0_, h1_, h2_, h3_, h4_, h5_, h6_, h7_, h8_, h9_, h10_, h11_, h12_, h13_, h14_, h15_, h16_, h17_, h18_⟩
         have n0_ : Aside0 (Kd.R (Kd.int .u32) 78 qk w.heap.size (fun k_ => some k_ ≠ (.slice jN jH.length jO : Value).ownBlock ∧ some k_ ≠ (jV : Value).ownBlock) (.slice jL jG.length jM) jG) := ⟨h0_⟩
         have n1_ : Aside0 (Kd.R (Kd.int .u32) 78 qk w.heap.size (fun k_ => some k_ ≠ (.slice jL jG.length jM : Value).ownBlock ∧ some k_ ≠ (jV : Value).ownBlock) (.slice jN jH.length jO) jH) := ⟨h1_⟩
         have n2_ : Aside0 (Kd.R (Kd.int .u32) 78 qk w.heap.size (fun k_ => some k_ ≠ (.slice jL jG.length jM : Value).ownBlock ∧ some k_ ≠ (.slice jN jH.length jO : Value).ownBlock) jV jW) := ⟨h2_⟩
         have n3_ : Aside0 (qk.heap[jh]? = some (.cells #[.bool a0_0, .slice jT l0_1.length jU] 25 (0, 0))) := ⟨h3_⟩
         have n4_ : Aside0 (qk.heap[jg]? = some (.cells #[.bool a1_0, .slice jP l1_1.length jQ] 25 (0, 0))) := ⟨h4_⟩
         have n5_ : Aside0 (qk.heap[ji]? = some (.cells #[.bool false, .slice none 0 0] 25 (0, 0))) := ⟨h5_⟩
         have n6_ : Aside0 (qk.heap[jj]? = some (.cells #[.bool false, .slice none 0 0] 25 (0, 0))) := ⟨h6_⟩
         have n7_ : Aside0 (qk.heap[jc]? = some (.cells #[.bool false, .slice none 0 0] 25 (0, 0))) := ⟨h7_⟩
         have n8_ : Aside0 (w.heap.size ≤ jc) := ⟨h8_⟩
         have n9_ : Aside0 (w.heap.size ≤ jc) := ⟨h9_⟩
         have n10_ : Aside0 (jh ≠ jc) := ⟨h10_⟩
         have n11_ : Aside0 (jc ≠ jh) := ⟨h11_⟩
         have n12_ : Aside0 (jg ≠ jc) := ⟨h12_⟩
         have n13_ : Aside0 (jc ≠ jg) := ⟨h13_⟩
         have n14_ : Aside0 (ji ≠ jc) := ⟨h14_⟩
         have n15_ : Aside0 (jc ≠ ji) := ⟨h15_⟩
         have n16_ : Aside0 (jj ≠ jc) := ⟨h16_⟩
         have n17_ : Aside0 (jc ≠ jj) := ⟨h17_⟩
         have n18_ : Aside0 (Below w.heap.size w qk) := ⟨h18_⟩
         clear jk
         clear jl
         clear jb
         clear ja
         clear jd
         clear jf
         clear HB
         clear h0_ h1_ h2_ h3_ h4_ h5_ h6_ h7_ h8_ h9_ h10_ h11_ h12_ h13_ h14_ h15_ h16_ h17_ h18_
         have jk := n0_
         have jl := n1_
         have jK := n2_
         have jb := n3_
         have ja := n4_
         have jd := n5_
         have jf := n6_
         have jm := n7_
         have j3 := n8_
         have jY := n9_
         have ju := n10_
         have jE := n11_
         have jv := n12_
         have jF := n13_
         have jw := n14_
         have jo := n15_
         have jx := n16_
         have jp := n17_
         have HB := n18_
         clear n0_ n1_ n2_ n3_ n4_ n5_ n6_ n7_ n8_ n9_ n10_ n11_ n12_ n13_ n14_ n15_ n16_ n17_ n18_
         have hHeld : qk.cell? ⟨jh, 0, none⟩ = some (.bool a0_0) ∧ qk.cell? ⟨jh, 1, none⟩ = some (.slice jT l0_1.length jU) ∧ qk.cell? ⟨jg, 0, none⟩ = some (.bool a1_0) ∧ qk.cell? ⟨jg, 1, none⟩ = some (.slice jP l1_1.length jQ) := hS_
         refine norm_ (a' := ?_) ?_ ?_
         rotate_left
         ·
          simp only [putAll, Act.put, sI_, s0_, s1_]
          rfl
         refine two_ (i := 10) (j := 11) (Ni := some 36) (Nj := some 10) #[true, true, true, true, true, true, true, true, true, true, true, false, true, false, false] #[true, true, true, true, true, true, true, true, true, true, false, true, true, false, false] rfl rfl rfl rfl (two_of HT_.out (by kernel_rfl)) (by decide) (by decide) (fun K hK => ?_) (fun K hK => ?_)
         ·
          skip
          refine goes_ Try.func47 (by kernel_rfl) rfl #[.bool a0_0, .slice jN jH.length jO] (by rfl) rfl rfl (by (try simp only [List.map_toArray, List.map_cons, List.map_nil]); rfl) ?_
          with_reducible refine (whole_norm.calls k a0_0 _ _ jH qo jZ _ ?side1 ?side2 A6.out).mono ?_
          (case side1 => exact (Kd.R_reads' jl.out).2.2)
          (case side2 => exact (Kd.R_reads' jl.out).2.1)
          rintro e qp ⟨qf, rfl, ho0, hb⟩
          refine ⟨_, rfl, ?_⟩
          have j1 := am (Kd.R_lower (Kd.R_new' (Kd.R_new' (Kd.R_new' ho0 (Kd.R_lt jk.out)) (Kd.R_lt jl.out)) (Kd.R_lt jK.out)) (below_size HB.out))
          replace jk := am (Kd.R_elder' jk.out (Kd.R_base ho0) hb)
          replace jl := am (Kd.R_elder' jl.out (Kd.R_base ho0) hb)
          replace jK := am (Kd.R_elder' jK.out (Kd.R_base ho0) hb)
          replace jb := am (blk_below jb.out hb)
          replace ja := am (blk_below ja.out hb)
          replace jd := am (blk_below jd.out hb)
          replace jf := am (blk_below jf.out hb)
          replace jm := am (blk_below jm.out hb)
          replace HB := am (below_step HB.out hb)
          try clear hb
          try clear ho0
          refine hK.out _ _ ⟨(blk_cell jb.out 0).trans rfl, (blk_cell jb.out 1).trans rfl, (blk_cell ja.out 0).trans rfl, (blk_cell ja.out 1).trans rfl⟩ (fun hHeld => ?_)
          clear hK K
          refine norm_ (a' := ?_) ?_ ?_
          rotate_left
          ·
           show Act.put _ (some 36) _ = _
           simp only [Act.put, sI_, s0_, s1_, i64_w, i32_w]
           rfl
          exact norm_ (by (simp only [putAll, Act.put, sI_, s0_, s1_]; done)) (qG (jV, qf, jc) _ ⟨hHeld, (by exact Kd.R_mono jk.out (fun _ hk => ⟨hk.1.1, ⟨hk.1.2, hk.2⟩⟩)), (by exact Kd.R_mono jl.out (fun _ hk => ⟨hk.1.1, ⟨hk.1.2, hk.2⟩⟩)), (by exact Kd.R_mono jK.out (fun _ hk => ⟨hk.1.1, ⟨hk.1.2, hk.2⟩⟩)), (by exact Kd.R_mono j1.out (fun _ hk => ⟨hk.1.1.2, ⟨hk.1.2, hk.2⟩⟩)), jb.out, ja.out, jd.out, jf.out, jm.out, j3.out, jY.out, ju.out, jE.out, jv.out, jF.out, jw.out, jo.out, jx.out, jp.out, HB.out⟩)
         ·
          skip
          refine box_step ?hg (N := 10) ?hd (cs := #[.bool false, .slice none 0 0]) (t := 25) ?hr ?_; (case hd => rfl); (case hg => rfl); (case hr => (go_simp; done))
          intro je hg qp hbox hb
          replace jk := am (Kd.R_below jk.out hb)
          replace jl := am (Kd.R_below jl.out hb)
          replace jK := am (Kd.R_below jK.out hb)
          have jn := am hbox
          have j2 := am (gel hg HB.out)
          have jX := am (gel hg HB.out)
          replace HB := am (below_step HB.out hb)
          have jq := am (nel hg jb.out)
          have jC := am (ner hg jb.out)
          replace jb := am (blk_below jb.out hb)
          have jr := am (nel hg ja.out)
          have jD := am (ner hg ja.out)
          replace ja := am (blk_below ja.out hb)
          have jy := am (nel hg jd.out)
          have js := am (ner hg jd.out)
          replace jd := am (blk_below jd.out hb)
          have jz := am (nel hg jf.out)
          have jt := am (ner hg jf.out)
          replace jf := am (blk_below jf.out hb)
          have jA := am (nel hg jm.out)
          have jB := am (ner hg jm.out)
          replace jm := am (blk_below jm.out hb)
          clear hb hbox hg
          refine hK.out _ _ ⟨(blk_cell jb.out 0).trans rfl, (blk_cell jb.out 1).trans rfl, (blk_cell ja.out 0).trans rfl, (blk_cell ja.out 1).trans rfl⟩ (fun hHeld => ?_)
          clear hK K
          refine norm_ (a' := ?_) ?_ ?_
          rotate_left
          ·
           show Act.put _ (some 10) _ = _
           simp only [Act.put, sI_, s0_, s1_, i64_w, i32_w]
           rfl
          exact norm_ (by (simp only [putAll, Act.put, sI_, s0_, s1_]; done)) (qB (jV, je, jc) _ ⟨hHeld, jk.out, jl.out, jK.out, jb.out, ja.out, jd.out, jf.out, jn.out, jm.out, j2.out, jX.out, jq.out, jC.out, jr.out, jD.out, jy.out, js.out, jz.out, jt.out, jA.out, jB.out, j3.out, jY.out, ju.out, jE.out, jv.out, jF.out, jw.out, jo.out, jx.out, jp.out, HB.out⟩)
       ·
        skip
        rintro ⟨jV, je⟩ qk ⟨hS_, h0_, h1_, h2_, h3_, h4_, h5_, h6_, h7_, h8_, h9_, h10_, h11_, h12_, h13_, h14_, h15_, h16_, h17_, h18_⟩
        have n0_ : Aside0 (Kd.R (Kd.int .u32) 78 qk w.heap.size (fun k_ => some k_ ≠ (.slice jN jH.length jO : Value).ownBlock ∧ some k_ ≠ (jV : Value).ownBlock) (.slice jL jG.length jM) jG) := ⟨h0_⟩
        have n1_ : Aside0 (Kd.R (Kd.int .u32) 78 qk w.heap.size (fun k_ => some k_ ≠ (.slice jL jG.length jM : Value).ownBlock ∧ some k_ ≠ (jV : Value).ownBlock) (.slice jN jH.length jO) jH) := ⟨h1_⟩
        have n2_ : Aside0 (Kd.R (Kd.int .u32) 78 qk w.heap.size (fun k_ => some k_ ≠ (.slice jL jG.length jM : Value).ownBlock ∧ some k_ ≠ (.slice jN jH.length jO : Value).ownBlock) jV jW) := ⟨h2_⟩
        have n3_ : Aside0 (qk.heap[jh]? = some (.cells #[.bool a0_0, .slice jT l0_1.length jU] 25 (0, 0))) := ⟨h3_⟩
        have n4_ : Aside0 (qk.heap[jg]? = some (.cells #[.bool a1_0, .slice jP l1_1.length jQ] 25 (0, 0))) := ⟨h4_⟩
        have n5_ : Aside0 (qk.heap[ji]? = some (.cells #[.bool false, .slice none 0 0] 25 (0, 0))) := ⟨h5_⟩
        have n6_ : Aside0 (qk.heap[jj]? = some (.cells #[.bool false, .slice none 0 0] 25 (0, 0))) := ⟨h6_⟩
        have n7_ : Aside0 (qk.heap[je]? = some (.cells #[.bool false, .slice none 0 0] 25 (0, 0))) := ⟨h7_⟩
        have n8_ : Aside0 (w.heap.size ≤ je) := ⟨h8_⟩
        have n9_ : Aside0 (w.heap.size ≤ je) := ⟨h9_⟩
        have n10_ : Aside0 (jh ≠ je) := ⟨h10_⟩
        have n11_ : Aside0 (je ≠ jh) := ⟨h11_⟩
        have n12_ : Aside0 (jg ≠ je) := ⟨h12_⟩
        have n13_ : Aside0 (je ≠ jg) := ⟨h13_⟩
        have n14_ : Aside0 (ji ≠ je) := ⟨h14_⟩
        have n15_ : Aside0 (je ≠ ji) := ⟨h15_⟩
        have n16_ : Aside0 (jj ≠ je) := ⟨h16_⟩
        have n17_ : Aside0 (je ≠ jj) := ⟨h17_⟩
        have n18_ : Aside0 (Below w.heap.size w qk) := ⟨h18_⟩
        clear jk
        clear jl
        clear jb
        clear ja
        clear jd
        clear jf
        clear HB
        clear h0_ h1_ h2_ h3_ h4_ h5_ h6_ h7_ h8_ h9_ h10_ h11_ h12_ h13_ h14_ h15_ h16_ h17_ h18_
        have jk := n0_
        have jl := n1_
        have jK := n2_
        have jb := n3_
        have ja := n4_
        have jd := n5_
        have jf := n6_
        have jn := n7_
        have j2 := n8_
        have jX := n9_
        have jq := n10_
        have jC := n11_
        have jr := n12_
        have jD := n13_
        have jy := n14_
        have js := n15_
        have jz := n16_
        have jt := n17_
        have HB := n18_
        clear n0_ n1_ n2_ n3_ n4_ n5_ n6_ n7_ n8_ n9_ n10_ n11_ n12_ n13_ n14_ n15_ n16_ n17_ n18_
        have hHeld : qk.cell? ⟨jh, 0, none⟩ = some (.bool a0_0) ∧ qk.cell? ⟨jh, 1, none⟩ = some (.slice jT l0_1.length jU) ∧ qk.cell? ⟨jg, 0, none⟩ = some (.bool a1_0) ∧ qk.cell? ⟨jg, 1, none⟩ = some (.slice jP l1_1.length jQ) := hS_
        refine norm_ (a' := ?_) ?_ ?_
        rotate_left
        ·
         simp only [putAll, Act.put, sI_, s0_, s1_]
         rfl
        refine two_ (i := 10) (j := 12) (Ni := some 36) (Nj := some 11) #[true, true, true, true, true, true, true, true, true, true, true, true, false, false, false] #[true, true, true, true, true, true, true, true, true, true, false, true, true, false, false] rfl rfl rfl rfl (two_of HT_.out (by kernel_rfl)) (by decide) (by decide) (fun K hK => ?_) (fun K hK => ?_)
        ·
         skip
         refine goes_ Try.func47 (by kernel_rfl) rfl #[.bool a0_0, .slice jN jH.length jO] (by rfl) rfl rfl (by (try simp only [List.map_toArray, List.map_cons, List.map_nil]); rfl) ?_
         with_reducible refine (whole_norm.calls k a0_0 _ _ jH qo jZ _ ?side1 ?side2 A6.out).mono ?_
         (case side1 => exact (Kd.R_reads' jl.out).2.2)
         (case side2 => exact (Kd.R_reads' jl.out).2.1)
         rintro e qp ⟨qf, rfl, ho0, hb⟩
         refine ⟨_, rfl, ?_⟩
         have j1 := am (Kd.R_lower (Kd.R_new' (Kd.R_new' (Kd.R_new' ho0 (Kd.R_lt jk.out)) (Kd.R_lt jl.out)) (Kd.R_lt jK.out)) (below_size HB.out))
         replace jk := am (Kd.R_elder' jk.out (Kd.R_base ho0) hb)
         replace jl := am (Kd.R_elder' jl.out (Kd.R_base ho0) hb)
         replace jK := am (Kd.R_elder' jK.out (Kd.R_base ho0) hb)
         replace jb := am (blk_below jb.out hb)
         replace ja := am (blk_below ja.out hb)
         replace jd := am (blk_below jd.out hb)
         replace jf := am (blk_below jf.out hb)
         replace jn := am (blk_below jn.out hb)
         replace HB := am (below_step HB.out hb)
         try clear hb
         try clear ho0
         refine hK.out _ _ ⟨(blk_cell jb.out 0).trans rfl, (blk_cell jb.out 1).trans rfl, (blk_cell ja.out 0).trans rfl, (blk_cell ja.out 1).trans rfl⟩ (fun hHeld => ?_)
         clear hK K
         refine norm_ (a' := ?_) ?_ ?_
         rotate_left
         ·
          show Act.put _ (some 36) _ = _
          simp only [Act.put, sI_, s0_, s1_, i64_w, i32_w]
          rfl
         exact norm_ (by (simp only [putAll, Act.put, sI_, s0_, s1_]; done)) (qF (jV, qf, je) _ ⟨hHeld, (by exact Kd.R_mono jk.out (fun _ hk => ⟨hk.1.1, ⟨hk.1.2, hk.2⟩⟩)), (by exact Kd.R_mono jl.out (fun _ hk => ⟨hk.1.1, ⟨hk.1.2, hk.2⟩⟩)), (by exact Kd.R_mono jK.out (fun _ hk => ⟨hk.1.1, ⟨hk.1.2, hk.2⟩⟩)), (by exact Kd.R_mono j1.out (fun _ hk => ⟨hk.1.1.2, ⟨hk.1.2, hk.2⟩⟩)), jb.out, ja.out, jd.out, jf.out, jn.out, j2.out, jX.out, jq.out, jC.out, jr.out, jD.out, jy.out, js.out, jz.out, jt.out, HB.out⟩)
        ·
         skip
         refine box_step ?hg (N := 11) ?hd (cs := #[.bool false, .slice none 0 0]) (t := 25) ?hr ?_; (case hd => rfl); (case hg => rfl); (case hr => (go_simp; done))
         intro jc hg qp hbox hb
         replace jk := am (Kd.R_below jk.out hb)
         replace jl := am (Kd.R_below jl.out hb)
         replace jK := am (Kd.R_below jK.out hb)
         have jm := am hbox
         have j3 := am (gel hg HB.out)
         have jY := am (gel hg HB.out)
         replace HB := am (below_step HB.out hb)
         have ju := am (nel hg jb.out)
         have jE := am (ner hg jb.out)
         replace jb := am (blk_below jb.out hb)
         have jv := am (nel hg ja.out)
         have jF := am (ner hg ja.out)
         replace ja := am (blk_below ja.out hb)
         have jw := am (nel hg jd.out)
         have jo := am (ner hg jd.out)
         replace jd := am (blk_below jd.out hb)
         have jx := am (nel hg jf.out)
         have jp := am (ner hg jf.out)
         replace jf := am (blk_below jf.out hb)
         have jB := am (nel hg jn.out)
         have jA := am (ner hg jn.out)
         replace jn := am (blk_below jn.out hb)
         clear hb hbox hg
         refine hK.out _ _ ⟨(blk_cell jb.out 0).trans rfl, (blk_cell jb.out 1).trans rfl, (blk_cell ja.out 0).trans rfl, (blk_cell ja.out 1).trans rfl⟩ (fun hHeld => ?_)
         clear hK K
         refine norm_ (a' := ?_) ?_ ?_
         rotate_left
         ·
          show Act.put _ (some 11) _ = _
          simp only [Act.put, sI_, s0_, s1_, i64_w, i32_w]
          rfl
         exact norm_ (by (simp only [putAll, Act.put, sI_, s0_, s1_]; done)) (qB (jV, je, jc) _ ⟨hHeld, jk.out, jl.out, jK.out, jb.out, ja.out, jd.out, jf.out, jn.out, jm.out, j2.out, jX.out, jq.out, jC.out, jr.out, jD.out, jy.out, js.out, jz.out, jt.out, jA.out, jB.out, j3.out, jY.out, ju.out, jE.out, jv.out, jF.out, jw.out, jo.out, jx.out, jp.out, HB.out⟩)
      ·
       skip
       rintro ⟨jV, qf⟩ qk ⟨hS_, h0_, h1_, h2_, h3_, h4_, h5_, h6_, h7_, h8_⟩
       have n0_ : Aside0 (Kd.R (Kd.int .u32) 78 qk w.heap.size (fun k_ => some k_ ≠ (.slice jN jH.length jO : Value).ownBlock ∧ some k_ ≠ (jV : Value).ownBlock ∧ some k_ ≠ (qf : Value).ownBlock) (.slice jL jG.length jM) jG) := ⟨h0_⟩
       have n1_ : Aside0 (Kd.R (Kd.int .u32) 78 qk w.heap.size (fun k_ => some k_ ≠ (.slice jL jG.length jM : Value).ownBlock ∧ some k_ ≠ (jV : Value).ownBlock ∧ some k_ ≠ (qf : Value).ownBlock) (.slice jN jH.length jO) jH) := ⟨h1_⟩
       have n2_ : Aside0 (Kd.R (Kd.int .u32) 78 qk w.heap.size (fun k_ => some k_ ≠ (.slice jL jG.length jM : Value).ownBlock ∧ some k_ ≠ (.slice jN jH.length jO : Value).ownBlock ∧ some k_ ≠ (qf : Value).ownBlock) jV jW) := ⟨h2_⟩
       have n3_ : Aside0 (Kd.R (Kd.int .u32) 78 qk w.heap.size (fun k_ => some k_ ≠ (.slice jL jG.length jM : Value).ownBlock ∧ some k_ ≠ (.slice jN jH.length jO : Value).ownBlock ∧ some k_ ≠ (jV : Value).ownBlock) qf jZ) := ⟨h3_⟩
       have n4_ : Aside0 (qk.heap[jh]? = some (.cells #[.bool a0_0, .slice jT l0_1.length jU] 25 (0, 0))) := ⟨h4_⟩
       have n5_ : Aside0 (qk.heap[jg]? = some (.cells #[.bool a1_0, .slice jP l1_1.length jQ] 25 (0, 0))) := ⟨h5_⟩
       have n6_ : Aside0 (qk.heap[ji]? = some (.cells #[.bool false, .slice none 0 0] 25 (0, 0))) := ⟨h6_⟩
       have n7_ : Aside0 (qk.heap[jj]? = some (.cells #[.bool false, .slice none 0 0] 25 (0, 0))) := ⟨h7_⟩
       have n8_ : Aside0 (Below w.heap.size w qk) := ⟨h8_⟩
       clear jk
       clear jl
       clear jb
       clear ja
       clear jd
       clear jf
       clear HB
       clear h0_ h1_ h2_ h3_ h4_ h5_ h6_ h7_ h8_
       have jk := n0_
       have jl := n1_
       have jK := n2_
       have j1 := n3_
       have jb := n4_
       have ja := n5_
       have jd := n6_
       have jf := n7_
       have HB := n8_
       clear n0_ n1_ n2_ n3_ n4_ n5_ n6_ n7_ n8_
       have hHeld : qk.cell? ⟨jh, 0, none⟩ = some (.bool a0_0) ∧ qk.cell? ⟨jh, 1, none⟩ = some (.slice jT l0_1.length jU) ∧ qk.cell? ⟨jg, 0, none⟩ = some (.bool a1_0) ∧ qk.cell? ⟨jg, 1, none⟩ = some (.slice jP l1_1.length jQ) := hS_
       refine norm_ (a' := ?_) ?_ ?_
       rotate_left
       ·
        simp only [putAll, Act.put, sI_, s0_, s1_]
        rfl
       refine two_ (i := 11) (j := 12) (Ni := some 10) (Nj := some 11) #[true, true, true, true, true, true, true, true, true, true, true, true, false, false, false] #[true, true, true, true, true, true, true, true, true, true, true, false, true, false, false] rfl rfl rfl rfl (two_of HT_.out (by kernel_rfl)) (by decide) (by decide) (fun K hK => ?_) (fun K hK => ?_)
       ·
        skip
        refine box_step ?hg (N := 10) ?hd (cs := #[.bool false, .slice none 0 0]) (t := 25) ?hr ?_; (case hd => rfl); (case hg => rfl); (case hr => (go_simp; done))
        intro je hg qp hbox hb
        replace jk := am (Kd.R_below jk.out hb)
        replace jl := am (Kd.R_below jl.out hb)
        replace jK := am (Kd.R_below jK.out hb)
        replace j1 := am (Kd.R_below j1.out hb)
        have jn := am hbox
        have j2 := am (gel hg HB.out)
        have jX := am (gel hg HB.out)
        replace HB := am (below_step HB.out hb)
        have jq := am (nel hg jb.out)
        have jC := am (ner hg jb.out)
        replace jb := am (blk_below jb.out hb)
        have jr := am (nel hg ja.out)
        have jD := am (ner hg ja.out)
        replace ja := am (blk_below ja.out hb)
        have jy := am (nel hg jd.out)
        have js := am (ner hg jd.out)
        replace jd := am (blk_below jd.out hb)
        have jz := am (nel hg jf.out)
        have jt := am (ner hg jf.out)
        replace jf := am (blk_below jf.out hb)
        clear hb hbox hg
        refine hK.out _ _ ⟨(blk_cell jb.out 0).trans rfl, (blk_cell jb.out 1).trans rfl, (blk_cell ja.out 0).trans rfl, (blk_cell ja.out 1).trans rfl⟩ (fun hHeld => ?_)
        clear hK K
        refine norm_ (a' := ?_) ?_ ?_
        rotate_left
        ·
         show Act.put _ (some 10) _ = _
         simp only [Act.put, sI_, s0_, s1_, i64_w, i32_w]
         rfl
        exact norm_ (by (simp only [putAll, Act.put, sI_, s0_, s1_]; done)) (qF (jV, qf, je) _ ⟨hHeld, jk.out, jl.out, jK.out, j1.out, jb.out, ja.out, jd.out, jf.out, jn.out, j2.out, jX.out, jq.out, jC.out, jr.out, jD.out, jy.out, js.out, jz.out, jt.out, HB.out⟩)
       ·
        skip
        refine box_step ?hg (N := 11) ?hd (cs := #[.bool false, .slice none 0 0]) (t := 25) ?hr ?_; (case hd => rfl); (case hg => rfl); (case hr => (go_simp; done))
        intro jc hg qp hbox hb
        replace jk := am (Kd.R_below jk.out hb)
        replace jl := am (Kd.R_below jl.out hb)
        replace jK := am (Kd.R_below jK.out hb)
        replace j1 := am (Kd.R_below j1.out hb)
        have jm := am hbox
        have j3 := am (gel hg HB.out)
        have jY := am (gel hg HB.out)
        replace HB := am (below_step HB.out hb)
        have ju := am (nel hg jb.out)
        have jE := am (ner hg jb.out)
        replace jb := am (blk_below jb.out hb)
        have jv := am (nel hg ja.out)
        have jF := am (ner hg ja.out)
        replace ja := am (blk_below ja.out hb)
        have jw := am (nel hg jd.out)
        have jo := am (ner hg jd.out)
        replace jd := am (blk_below jd.out hb)
        have jx := am (nel hg jf.out)
        have jp := am (ner hg jf.out)
        replace jf := am (blk_below jf.out hb)
        clear hb hbox hg
        refine hK.out _ _ ⟨(blk_cell jb.out 0).trans rfl, (blk_cell jb.out 1).trans rfl, (blk_cell ja.out 0).trans rfl, (blk_cell ja.out 1).trans rfl⟩ (fun hHeld => ?_)
        clear hK K
        refine norm_ (a' := ?_) ?_ ?_
        rotate_left
        ·
         show Act.put _ (some 11) _ = _
         simp only [Act.put, sI_, s0_, s1_, i64_w, i32_w]
         rfl
        exact norm_ (by (simp only [putAll, Act.put, sI_, s0_, s1_]; done)) (qG (jV, qf, jc) _ ⟨hHeld, jk.out, jl.out, jK.out, j1.out, jb.out, ja.out, jd.out, jf.out, jm.out, j3.out, jY.out, ju.out, jE.out, jv.out, jF.out, jw.out, jo.out, jx.out, jp.out, HB.out⟩)
     ·
      skip
      rintro ⟨jV, je, jc⟩ qp ⟨hS_, h0_, h1_, h2_, h3_, h4_, h5_, h6_, h7_, h8_, h9_, h10_, h11_, h12_, h13_, h14_, h15_, h16_, h17_, h18_, h19_, h20_, h21_, h22_, h23_, h24_, h25_, h26_, h27_, h28_, h29_, h30_, h31_⟩
      have n0_ : Aside0 (Kd.R (Kd.int .u32) 78 qp w.heap.size (fun k_ => some k_ ≠ (.slice jN jH.length jO : Value).ownBlock ∧ some k_ ≠ (jV : Value).ownBlock) (.slice jL jG.length jM) jG) := ⟨h0_⟩
      have n1_ : Aside0 (Kd.R (Kd.int .u32) 78 qp w.heap.size (fun k_ => some k_ ≠ (.slice jL jG.length jM : Value).ownBlock ∧ some k_ ≠ (jV : Value).ownBlock) (.slice jN jH.length jO) jH) := ⟨h1_⟩
      have n2_ : Aside0 (Kd.R (Kd.int .u32) 78 qp w.heap.size (fun k_ => some k_ ≠ (.slice jL jG.length jM : Value).ownBlock ∧ some k_ ≠ (.slice jN jH.length jO : Value).ownBlock) jV jW) := ⟨h2_⟩
      have n3_ : Aside0 (qp.heap[jh]? = some (.cells #[.bool a0_0, .slice jT l0_1.length jU] 25 (0, 0))) := ⟨h3_⟩
      have n4_ : Aside0 (qp.heap[jg]? = some (.cells #[.bool a1_0, .slice jP l1_1.length jQ] 25 (0, 0))) := ⟨h4_⟩
      have n5_ : Aside0 (qp.heap[ji]? = some (.cells #[.bool false, .slice none 0 0] 25 (0, 0))) := ⟨h5_⟩
      have n6_ : Aside0 (qp.heap[jj]? = some (.cells #[.bool false, .slice none 0 0] 25 (0, 0))) := ⟨h6_⟩
      have n7_ : Aside0 (qp.heap[je]? = some (.cells #[.bool false, .slice none 0 0] 25 (0, 0))) := ⟨h7_⟩
      have n8_ : Aside0 (qp.heap[jc]? = some (.cells #[.bool false, .slice none 0 0] 25 (0, 0))) := ⟨h8_⟩
      have n9_ : Aside0 (w.heap.size ≤ je) := ⟨h9_⟩
      have n10_ : Aside0 (w.heap.size ≤ je) := ⟨h10_⟩
      have n11_ : Aside0 (jh ≠ je) := ⟨h11_⟩
      have n12_ : Aside0 (je ≠ jh) := ⟨h12_⟩
      have n13_ : Aside0 (jg ≠ je) := ⟨h13_⟩
      have n14_ : Aside0 (je ≠ jg) := ⟨h14_⟩
      have n15_ : Aside0 (ji ≠ je) := ⟨h15_⟩
      have n16_ : Aside0 (je ≠ ji) := ⟨h16_⟩
      have n17_ : Aside0 (jj ≠ je) := ⟨h17_⟩
      have n18_ : Aside0 (je ≠ jj) := ⟨h18_⟩
      have n19_ : Aside0 (jc ≠ je) := ⟨h19_⟩
      have n20_ : Aside0 (je ≠ jc) := ⟨h20_⟩
      have n21_ : Aside0 (w.heap.size ≤ jc) := ⟨h21_⟩
      have n22_ : Aside0 (w.heap.size ≤ jc) := ⟨h22_⟩
      have n23_ : Aside0 (jh ≠ jc) := ⟨h23_⟩
      have n24_ : Aside0 (jc ≠ jh) := ⟨h24_⟩
      have n25_ : Aside0 (jg ≠ jc) := ⟨h25_⟩
      have n26_ : Aside0 (jc ≠ jg) := ⟨h26_⟩
      have n27_ : Aside0 (ji ≠ jc) := ⟨h27_⟩
      have n28_ : Aside0 (jc ≠ ji) := ⟨h28_⟩
      have n29_ : Aside0 (jj ≠ jc) := ⟨h29_⟩
      have n30_ : Aside0 (jc ≠ jj) := ⟨h30_⟩
      have n31_ : Aside0 (Below w.heap.size w qp) := ⟨h31_⟩
      clear jk
      clear jl
      clear jb
      clear ja
      clear jd
      clear jf
      clear HB
      clear h0_ h1_ h2_ h3_ h4_ h5_ h6_ h7_ h8_ h9_ h10_ h11_ h12_ h13_ h14_ h15_ h16_ h17_ h18_ h19_ h20_ h21_ h22_ h23_ h24_ h25_ h26_ h27_ h28_ h29_ h30_ h31_
      have jk := n0_
      have jl := n1_
      have jK := n2_
      have jb := n3_
      have ja := n4_
      have jd := n5_
      have jf := n6_
      have jn := n7_
      have jm := n8_
      have j2 := n9_
      have jX := n10_
      have jq := n11_
      have jC := n12_
      have jr := n13_
      have jD := n14_
      have jy := n15_
      have js := n16_
      have jz := n17_
      have jt := n18_
      have jA := n19_
      have jB := n20_
      have j3 := n21_
      have jY := n22_
      have ju := n23_
      have jE := n24_
      have jv := n25_
      have jF := n26_
      have jw := n27_
      have jo := n28_
      have jx := n29_
      have jp := n30_
      have HB := n31_
      clear n0_ n1_ n2_ n3_ n4_ n5_ n6_ n7_ n8_ n9_ n10_ n11_ n12_ n13_ n14_ n15_ n16_ n17_ n18_ n19_ n20_ n21_ n22_ n23_ n24_ n25_ n26_ n27_ n28_ n29_ n30_ n31_
      have hHeld : qp.cell? ⟨jh, 0, none⟩ = some (.bool a0_0) ∧ qp.cell? ⟨jh, 1, none⟩ = some (.slice jT l0_1.length jU) ∧ qp.cell? ⟨jg, 0, none⟩ = some (.bool a1_0) ∧ qp.cell? ⟨jg, 1, none⟩ = some (.slice jP l1_1.length jQ) := hS_
      refine norm_ (a' := ?_) ?_ ?_
      rotate_left
      ·
       simp only [putAll, Act.put, sI_, s0_, s1_]
       rfl
      refine one_ (i := 10) (N := some 36) #[true, true, true, true, true, true, true, true, true, true, true, true, true, false, false] rfl rfl (one_of HT_.out (by kernel_rfl)) (by decide) (fun K hK => ?_)
      refine goes_ Try.func47 (by kernel_rfl) rfl #[.bool a0_0, .slice jN jH.length jO] (by rfl) rfl rfl (by (try simp only [List.map_toArray, List.map_cons, List.map_nil]); rfl) ?_
      with_reducible refine (whole_norm.calls k a0_0 _ _ jH qo jZ _ ?side1 ?side2 A6.out).mono ?_
      (case side1 => exact (Kd.R_reads' jl.out).2.2)
      (case side2 => exact (Kd.R_reads' jl.out).2.1)
      rintro e qA ⟨qf, rfl, ho0, hb⟩
      refine ⟨_, rfl, ?_⟩
      have j1 := am (Kd.R_lower (Kd.R_new' (Kd.R_new' (Kd.R_new' ho0 (Kd.R_lt jk.out)) (Kd.R_lt jl.out)) (Kd.R_lt jK.out)) (below_size HB.out))
      replace jk := am (Kd.R_elder' jk.out (Kd.R_base ho0) hb)
      replace jl := am (Kd.R_elder' jl.out (Kd.R_base ho0) hb)
      replace jK := am (Kd.R_elder' jK.out (Kd.R_base ho0) hb)
      replace jb := am (blk_below jb.out hb)
      replace ja := am (blk_below ja.out hb)
      replace jd := am (blk_below jd.out hb)
      replace jf := am (blk_below jf.out hb)
      replace jn := am (blk_below jn.out hb)
      replace jm := am (blk_below jm.out hb)
      replace HB := am (below_step HB.out hb)
      try clear hb
      try clear ho0
      refine hK.out _ _ ⟨(blk_cell jb.out 0).trans rfl, (blk_cell jb.out 1).trans rfl, (blk_cell ja.out 0).trans rfl, (blk_cell ja.out 1).trans rfl⟩ (fun hHeld => ?_)
      clear hK K
      refine norm_ (a' := ?_) ?_ ?_
      rotate_left
      ·
       show Act.put _ (some 36) _ = _
       simp only [Act.put, sI_, s0_, s1_, i64_w, i32_w]
       rfl
      exact norm_ (by (simp only [putAll, Act.put, sI_, s0_, s1_]; done)) (qx (jV, qf, je, jc) _ ⟨hHeld, (by exact Kd.R_mono jk.out (fun _ hk => ⟨hk.1.1, ⟨hk.1.2, hk.2⟩⟩)), (by exact Kd.R_mono jl.out (fun _ hk => ⟨hk.1.1, ⟨hk.1.2, hk.2⟩⟩)), (by exact Kd.R_mono jK.out (fun _ hk => ⟨hk.1.1, ⟨hk.1.2, hk.2⟩⟩)), (by exact Kd.R_mono j1.out (fun _ hk => ⟨hk.1.1.2, ⟨hk.1.2, hk.2⟩⟩)), jb.out, ja.out, jd.out, jf.out, jn.out, jm.out, j2.out, jX.out, jq.out, jC.out, jr.out, jD.out, jy.out, js.out, jz.out, jt.out, jA.out, jB.out, j3.out, jY.out, ju.out, jE.out, jv.out, jF.out, jw.out, jo.out, jx.out, jp.out, HB.out⟩)
    ·
     skip
     rintro ⟨jV, qf, jc⟩ qp ⟨hS_, h0_, h1_, h2_, h3_, h4_, h5_, h6_, h7_, h8_, h9_, h10_, h11_, h12_, h13_, h14_, h15_, h16_, h17_, h18_, h19_⟩
     have n0_ : Aside0 (Kd.R (Kd.int .u32) 78 qp w.heap.size (fun k_ => some k_ ≠ (.slice jN jH.length jO : Value).ownBlock ∧ some k_ ≠ (jV : Value).ownBlock ∧ some k_ ≠ (qf : Value).ownBlock) (.slice jL jG.length jM) jG) := ⟨h0_⟩
     have n1_ : Aside0 (Kd.R (Kd.int .u32) 78 qp w.heap.size (fun k_ => some k_ ≠ (.slice jL jG.length jM : Value).ownBlock ∧ some k_ ≠ (jV : Value).ownBlock ∧ some k_ ≠ (qf : Value).ownBlock) (.slice jN jH.length jO) jH) := ⟨h1_⟩
     have n2_ : Aside0 (Kd.R (Kd.int .u32) 78 qp w.heap.size (fun k_ => some k_ ≠ (.slice jL jG.length jM : Value).ownBlock ∧ some k_ ≠ (.slice jN jH.length jO : Value).ownBlock ∧ some k_ ≠ (qf : Value).ownBlock) jV jW) := ⟨h2_⟩
     have n3_ : Aside0 (Kd.R (Kd.int .u32) 78 qp w.heap.size (fun k_ => some k_ ≠ (.slice jL jG.length jM : Value).ownBlock ∧ some k_ ≠ (.slice jN jH.length jO : Value).ownBlock ∧ some k_ ≠ (jV : Value).ownBlock) qf jZ) := ⟨h3_⟩
     have n4_ : Aside0 (qp.heap[jh]? = some (.cells #[.bool a0_0, .slice jT l0_1.length jU] 25 (0, 0))) := ⟨h4_⟩
     have n5_ : Aside0 (qp.heap[jg]? = some (.cells #[.bool a1_0, .slice jP l1_1.length jQ] 25 (0, 0))) := ⟨h5_⟩
     have n6_ : Aside0 (qp.heap[ji]? = some (.cells #[.bool false, .slice none 0 0] 25 (0, 0))) := ⟨h6_⟩
     have n7_ : Aside0 (qp.heap[jj]? = some (.cells #[.bool false, .slice none 0 0] 25 (0, 0))) := ⟨h7_⟩
     have n8_ : Aside0 (qp.heap[jc]? = some (.cells #[.bool false, .slice none 0 0] 25 (0, 0))) := ⟨h8_⟩
     have n9_ : Aside0 (w.heap.size ≤ jc) := ⟨h9_⟩
     have n10_ : Aside0 (w.heap.size ≤ jc) := ⟨h10_⟩
     have n11_ : Aside0 (jh ≠ jc) := ⟨h11_⟩
     have n12_ : Aside0 (jc ≠ jh) := ⟨h12_⟩
     have n13_ : Aside0 (jg ≠ jc) := ⟨h13_⟩
     have n14_ : Aside0 (jc ≠ jg) := ⟨h14_⟩
     have n15_ : Aside0 (ji ≠ jc) := ⟨h15_⟩
     have n16_ : Aside0 (jc ≠ ji) := ⟨h16_⟩
     have n17_ : Aside0 (jj ≠ jc) := ⟨h17_⟩
     have n18_ : Aside0 (jc ≠ jj) := ⟨h18_⟩
     have n19_ : Aside0 (Below w.heap.size w qp) := ⟨h19_⟩
     clear jk
     clear jl
     clear jb
     clear ja
     clear jd
     clear jf
     clear HB
     clear h0_ h1_ h2_ h3_ h4_ h5_ h6_ h7_ h8_ h9_ h10_ h11_ h12_ h13_ h14_ h15_ h16_ h17_ h18_ h19_
     have jk := n0_
     have jl := n1_
     have jK := n2_
     have j1 := n3_
     have jb := n4_
     have ja := n5_
     have jd := n6_
     have jf := n7_
     have jm := n8_
     have j3 := n9_
     have jY := n10_
     have ju := n11_
     have jE := n12_
     have jv := n13_
     have jF := n14_
     have jw := n15_
     have jo := n16_
     have jx := n17_
     have jp := n18_
     have HB := n19_
     clear n0_ n1_ n2_ n3_ n4_ n5_ n6_ n7_ n8_ n9_ n10_ n11_ n12_ n13_ n14_ n15_ n16_ n17_ n18_ n19_
     have hHeld : qp.cell? ⟨jh, 0, none⟩ = some (.bool a0_0) ∧ qp.cell? ⟨jh, 1, none⟩ = some (.slice jT l0_1.length jU) ∧ qp.cell? ⟨jg, 0, none⟩ = some (.bool a1_0) ∧ qp.cell? ⟨jg, 1, none⟩ = some (.slice jP l1_1.length jQ) := hS_
     refine norm_ (a' := ?_) ?_ ?_
     rotate_left
     ·
      simp only [putAll, Act.put, sI_, s0_, s1_]
      rfl
     refine one_ (i := 11) (N := some 10) #[true, true, true, true, true, true, true, true, true, true, true, true, true, false, false] rfl rfl (one_of HT_.out (by kernel_rfl)) (by decide) (fun K hK => ?_)
     refine box_step ?hg (N := 10) ?hd (cs := #[.bool false, .slice none 0 0]) (t := 25) ?hr ?_; (case hd => rfl); (case hg => rfl); (case hr => (go_simp; done))
     intro je hg qA hbox hb
     replace jk := am (Kd.R_below jk.out hb)
     replace jl := am (Kd.R_below jl.out hb)
     replace jK := am (Kd.R_below jK.out hb)
     replace j1 := am (Kd.R_below j1.out hb)
     have jn := am hbox
     have j2 := am (gel hg HB.out)
     have jX := am (gel hg HB.out)
     replace HB := am (below_step HB.out hb)
     have jq := am (nel hg jb.out)
     have jC := am (ner hg jb.out)
     replace jb := am (blk_below jb.out hb)
     have jr := am (nel hg ja.out)
     have jD := am (ner hg ja.out)
     replace ja := am (blk_below ja.out hb)
     have jy := am (nel hg jd.out)
     have js := am (ner hg jd.out)
     replace jd := am (blk_below jd.out hb)
     have jz := am (nel hg jf.out)
     have jt := am (ner hg jf.out)
     replace jf := am (blk_below jf.out hb)
     have jA := am (nel hg jm.out)
     have jB := am (ner hg jm.out)
     replace jm := am (blk_below jm.out hb)
     clear hb hbox hg
     refine hK.out _ _ ⟨(blk_cell jb.out 0).trans rfl, (blk_cell jb.out 1).trans rfl, (blk_cell ja.out 0).trans rfl, (blk_cell ja.out 1).trans rfl⟩ (fun hHeld => ?_)
     clear hK K
     refine norm_ (a' := ?_) ?_ ?_
     rotate_left
     ·
      show Act.put _ (some 10) _ = _
      simp only [Act.put, sI_, s0_, s1_, i64_w, i32_w]
      rfl
     exact norm_ (by (simp only [putAll, Act.put, sI_, s0_, s1_]; done)) (qx (jV, qf, je, jc) _ ⟨hHeld, jk.out, jl.out, jK.out, j1.out, jb.out, ja.out, jd.out, jf.out, jn.out, jm.out, j2.out, jX.out, jq.out, jC.out, jr.out, jD.out, jy.out, js.out, jz.out, jt.out, jA.out, jB.out, j3.out, jY.out, ju.out, jE.out, jv.out, jF.out, jw.out, jo.out, jx.out, jp.out, HB.out⟩)
   ·
    skip
    rintro ⟨jV, qf, je⟩ qp ⟨hS_, h0_, h1_, h2_, h3_, h4_, h5_, h6_, h7_, h8_, h9_, h10_, h11_, h12_, h13_, h14_, h15_, h16_, h17_, h18_, h19_⟩
    have n0_ : Aside0 (Kd.R (Kd.int .u32) 78 qp w.heap.size (fun k_ => some k_ ≠ (.slice jN jH.length jO : Value).ownBlock ∧ some k_ ≠ (jV : Value).ownBlock ∧ some k_ ≠ (qf : Value).ownBlock) (.slice jL jG.length jM) jG) := ⟨h0_⟩
    have n1_ : Aside0 (Kd.R (Kd.int .u32) 78 qp w.heap.size (fun k_ => some k_ ≠ (.slice jL jG.length jM : Value).ownBlock ∧ some k_ ≠ (jV : Value).ownBlock ∧ some k_ ≠ (qf : Value).ownBlock) (.slice jN jH.length jO) jH) := ⟨h1_⟩
    have n2_ : Aside0 (Kd.R (Kd.int .u32) 78 qp w.heap.size (fun k_ => some k_ ≠ (.slice jL jG.length jM : Value).ownBlock ∧ some k_ ≠ (.slice jN jH.length jO : Value).ownBlock ∧ some k_ ≠ (qf : Value).ownBlock) jV jW) := ⟨h2_⟩
    have n3_ : Aside0 (Kd.R (Kd.int .u32) 78 qp w.heap.size (fun k_ => some k_ ≠ (.slice jL jG.length jM : Value).ownBlock ∧ some k_ ≠ (.slice jN jH.length jO : Value).ownBlock ∧ some k_ ≠ (jV : Value).ownBlock) qf jZ) := ⟨h3_⟩
    have n4_ : Aside0 (qp.heap[jh]? = some (.cells #[.bool a0_0, .slice jT l0_1.length jU] 25 (0, 0))) := ⟨h4_⟩
    have n5_ : Aside0 (qp.heap[jg]? = some (.cells #[.bool a1_0, .slice jP l1_1.length jQ] 25 (0, 0))) := ⟨h5_⟩
    have n6_ : Aside0 (qp.heap[ji]? = some (.cells #[.bool false, .slice none 0 0] 25 (0, 0))) := ⟨h6_⟩
    have n7_ : Aside0 (qp.heap[jj]? = some (.cells #[.bool false, .slice none 0 0] 25 (0, 0))) := ⟨h7_⟩
    have n8_ : Aside0 (qp.heap[je]? = some (.cells #[.bool false, .slice none 0 0] 25 (0, 0))) := ⟨h8_⟩
    have n9_ : Aside0 (w.heap.size ≤ je) := ⟨h9_⟩
    have n10_ : Aside0 (w.heap.size ≤ je) := ⟨h10_⟩
    have n11_ : Aside0 (jh ≠ je) := ⟨h11_⟩
    have n12_ : Aside0 (je ≠ jh) := ⟨h12_⟩
    have n13_ : Aside0 (jg ≠ je) := ⟨h13_⟩
    have n14_ : Aside0 (je ≠ jg) := ⟨h14_⟩
    have n15_ : Aside0 (ji ≠ je) := ⟨h15_⟩
    have n16_ : Aside0 (je ≠ ji) := ⟨h16_⟩
    have n17_ : Aside0 (jj ≠ je) := ⟨h17_⟩
    have n18_ : Aside0 (je ≠ jj) := ⟨h18_⟩
    have n19_ : Aside0 (Below w.heap.size w qp) := ⟨h19_⟩
    clear jk
    clear jl
    clear jb
    clear ja
    clear jd
    clear jf
    clear HB
    clear h0_ h1_ h2_ h3_ h4_ h5_ h6_ h7_ h8_ h9_ h10_ h11_ h12_ h13_ h14_ h15_ h16_ h17_ h18_ h19_
    have jk := n0_
    have jl := n1_
    have jK := n2_
    have j1 := n3_
    have jb := n4_
    have ja := n5_
    have jd := n6_
    have jf := n7_
    have jn := n8_
    have j2 := n9_
    have jX := n10_
    have jq := n11_
    have jC := n12_
    have jr := n13_
    have jD := n14_
    have jy := n15_
    have js := n16_
    have jz := n17_
    have jt := n18_
    have HB := n19_
    clear n0_ n1_ n2_ n3_ n4_ n5_ n6_ n7_ n8_ n9_ n10_ n11_ n12_ n13_ n14_ n15_ n16_ n17_ n18_ n19_
    have hHeld : qp.cell? ⟨jh, 0, none⟩ = some (.bool a0_0) ∧ qp.cell? ⟨jh, 1, none⟩ = some (.slice jT l0_1.length jU) ∧ qp.cell? ⟨jg, 0, none⟩ = some (.bool a1_0) ∧ qp.cell? ⟨jg, 1, none⟩ = some (.slice jP l1_1.length jQ) := hS_
    refine norm_ (a' := ?_) ?_ ?_
    rotate_left
    ·
     simp only [putAll, Act.put, sI_, s0_, s1_]
     rfl
    refine one_ (i := 12) (N := some 11) #[true, true, true, true, true, true, true, true, true, true, true, true, true, false, false] rfl rfl (one_of HT_.out (by kernel_rfl)) (by decide) (fun K hK => ?_)
    refine box_step ?hg (N := 11) ?hd (cs := #[.bool false, .slice none 0 0]) (t := 25) ?hr ?_; (case hd => rfl); (case hg => rfl); (case hr => (go_simp; done))
    intro jc hg qA hbox hb
    replace jk := am (Kd.R_below jk.out hb)
    replace jl := am (Kd.R_below jl.out hb)
    replace jK := am (Kd.R_below jK.out hb)
    replace j1 := am (Kd.R_below j1.out hb)
    have jm := am hbox
    have j3 := am (gel hg HB.out)
    have jY := am (gel hg HB.out)
    replace HB := am (below_step HB.out hb)
    have ju := am (nel hg jb.out)
    have jE := am (ner hg jb.out)
    replace jb := am (blk_below jb.out hb)
    have jv := am (nel hg ja.out)
    have jF := am (ner hg ja.out)
    replace ja := am (blk_below ja.out hb)
    have jw := am (nel hg jd.out)
    have jo := am (ner hg jd.out)
    replace jd := am (blk_below jd.out hb)
    have jx := am (nel hg jf.out)
    have jp := am (ner hg jf.out)
    replace jf := am (blk_below jf.out hb)
    have jB := am (nel hg jn.out)
    have jA := am (ner hg jn.out)
    replace jn := am (blk_below jn.out hb)
    clear hb hbox hg
    refine hK.out _ _ ⟨(blk_cell jb.out 0).trans rfl, (blk_cell jb.out 1).trans rfl, (blk_cell ja.out 0).trans rfl, (blk_cell ja.out 1).trans rfl⟩ (fun hHeld => ?_)
    clear hK K
    refine norm_ (a' := ?_) ?_ ?_
    rotate_left
    ·
     show Act.put _ (some 11) _ = _
     simp only [Act.put, sI_, s0_, s1_, i64_w, i32_w]
     rfl
    exact norm_ (by (simp only [putAll, Act.put, sI_, s0_, s1_]; done)) (qx (jV, qf, je, jc) _ ⟨hHeld, jk.out, jl.out, jK.out, j1.out, jb.out, ja.out, jd.out, jf.out, jn.out, jm.out, j2.out, jX.out, jq.out, jC.out, jr.out, jD.out, jy.out, js.out, jz.out, jt.out, jA.out, jB.out, j3.out, jY.out, ju.out, jE.out, jv.out, jF.out, jw.out, jo.out, jx.out, jp.out, HB.out⟩)
  rintro ⟨jV, qf, je, jc⟩ qA ⟨hS_, h0_, h1_, h2_, h3_, h4_, h5_, h6_, h7_, h8_, h9_, h10_, h11_, h12_, h13_, h14_, h15_, h16_, h17_, h18_, h19_, h20_, h21_, h22_, h23_, h24_, h25_, h26_, h27_, h28_, h29_, h30_, h31_, h32_⟩
  have n0_ : Aside0 (Kd.R (Kd.int .u32) 78 qA w.heap.size (fun k_ => some k_ ≠ (.slice jN jH.length jO : Value).ownBlock ∧ some k_ ≠ (jV : Value).ownBlock ∧ some k_ ≠ (qf : Value).ownBlock) (.slice jL jG.length jM) jG) := ⟨h0_⟩
  have n1_ : Aside0 (Kd.R (Kd.int .u32) 78 qA w.heap.size (fun k_ => some k_ ≠ (.slice jL jG.length jM : Value).ownBlock ∧ some k_ ≠ (jV : Value).ownBlock ∧ some k_ ≠ (qf : Value).ownBlock) (.slice jN jH.length jO) jH) := ⟨h1_⟩
  have n2_ : Aside0 (Kd.R (Kd.int .u32) 78 qA w.heap.size (fun k_ => some k_ ≠ (.slice jL jG.length jM : Value).ownBlock ∧ some k_ ≠ (.slice jN jH.length jO : Value).ownBlock ∧ some k_ ≠ (qf : Value).ownBlock) jV jW) := ⟨h2_⟩
  have n3_ : Aside0 (Kd.R (Kd.int .u32) 78 qA w.heap.size (fun k_ => some k_ ≠ (.slice jL jG.length jM : Value).ownBlock ∧ some k_ ≠ (.slice jN jH.length jO : Value).ownBlock ∧ some k_ ≠ (jV : Value).ownBlock) qf jZ) := ⟨h3_⟩
  have n4_ : Aside0 (qA.heap[jh]? = some (.cells #[.bool a0_0, .slice jT l0_1.length jU] 25 (0, 0))) := ⟨h4_⟩
  have n5_ : Aside0 (qA.heap[jg]? = some (.cells #[.bool a1_0, .slice jP l1_1.length jQ] 25 (0, 0))) := ⟨h5_⟩
  have n6_ : Aside0 (qA.heap[ji]? = some (.cells #[.bool false, .slice none 0 0] 25 (0, 0))) := ⟨h6_⟩
  have n7_ : Aside0 (qA.heap[jj]? = some (.cells #[.bool false, .slice none 0 0] 25 (0, 0))) := ⟨h7_⟩
  have n8_ : Aside0 (qA.heap[je]? = some (.cells #[.bool false, .slice none 0 0] 25 (0, 0))) := ⟨h8_⟩
  have n9_ : Aside0 (qA.heap[jc]? = some (.cells #[.bool false, .slice none 0 0] 25 (0, 0))) := ⟨h9_⟩
  have n10_ : Aside0 (w.heap.size ≤ je) := ⟨h10_⟩
  have n11_ : Aside0 (w.heap.size ≤ je) := ⟨h11_⟩
  have n12_ : Aside0 (jh ≠ je) := ⟨h12_⟩
  have n13_ : Aside0 (je ≠ jh) := ⟨h13_⟩
  have n14_ : Aside0 (jg ≠ je) := ⟨h14_⟩
  have n15_ : Aside0 (je ≠ jg) := ⟨h15_⟩
  have n16_ : Aside0 (ji ≠ je) := ⟨h16_⟩
  have n17_ : Aside0 (je ≠ ji) := ⟨h17_⟩
  have n18_ : Aside0 (jj ≠ je) := ⟨h18_⟩
  have n19_ : Aside0 (je ≠ jj) := ⟨h19_⟩
  have n20_ : Aside0 (jc ≠ je) := ⟨h20_⟩
  have n21_ : Aside0 (je ≠ jc) := ⟨h21_⟩
  have n22_ : Aside0 (w.heap.size ≤ jc) := ⟨h22_⟩
  have n23_ : Aside0 (w.heap.size ≤ jc) := ⟨h23_⟩
  have n24_ : Aside0 (jh ≠ jc) := ⟨h24_⟩
  have n25_ : Aside0 (jc ≠ jh) := ⟨h25_⟩
  have n26_ : Aside0 (jg ≠ jc) := ⟨h26_⟩
  have n27_ : Aside0 (jc ≠ jg) := ⟨h27_⟩
  have n28_ : Aside0 (ji ≠ jc) := ⟨h28_⟩
  have n29_ : Aside0 (jc ≠ ji) := ⟨h29_⟩
  have n30_ : Aside0 (jj ≠ jc) := ⟨h30_⟩
  have n31_ : Aside0 (jc ≠ jj) := ⟨h31_⟩
  have n32_ : Aside0 (Below w.heap.size w qA) := ⟨h32_⟩
  clear jk
  clear jl
  clear jb
  clear ja
  clear jd
  clear jf
  clear HB
  clear h0_ h1_ h2_ h3_ h4_ h5_ h6_ h7_ h8_ h9_ h10_ h11_ h12_ h13_ h14_ h15_ h16_ h17_ h18_ h19_ h20_ h21_ h22_ h23_ h24_ h25_ h26_ h27_ h28_ h29_ h30_ h31_ h32_
  have jk := n0_
  have jl := n1_
  have jK := n2_
  have j1 := n3_
  have jb := n4_
  have ja := n5_
  have jd := n6_
  have jf := n7_
  have jn := n8_
  have jm := n9_
  have j2 := n10_
  have jX := n11_
  have jq := n12_
  have jC := n13_
  have jr := n14_
  have jD := n15_
  have jy := n16_
  have js := n17_
  have jz := n18_
  have jt := n19_
  have jA := n20_
  have jB := n21_
  have j3 := n22_
  have jY := n23_
  have ju := n24_
  have jE := n25_
  have jv := n26_
  have jF := n27_
  have jw := n28_
  have jo := n29_
  have jx := n30_
  have jp := n31_
  have HB := n32_
  clear n0_ n1_ n2_ n3_ n4_ n5_ n6_ n7_ n8_ n9_ n10_ n11_ n12_ n13_ n14_ n15_ n16_ n17_ n18_ n19_ n20_ n21_ n22_ n23_ n24_ n25_ n26_ n27_ n28_ n29_ n30_ n31_ n32_
  have hHeld : qA.cell? ⟨jh, 0, none⟩ = some (.bool a0_0) ∧ qA.cell? ⟨jh, 1, none⟩ = some (.slice jT l0_1.length jU) ∧ qA.cell? ⟨jg, 0, none⟩ = some (.bool a1_0) ∧ qA.cell? ⟨jg, 1, none⟩ = some (.slice jP l1_1.length jQ) := hS_
  obtain ⟨qr, qs, eo29⟩ := Kd.R_slice jK.out
  (subst eo29)
  obtain ⟨qt, qu, eo32⟩ := Kd.R_slice j1.out
  (subst eo32)
  refine norm_ (a' := ?_) ?_ ?_
  rotate_left
  ·
   simp only [putAll, Act.put, sI_, s0_, s1_]
   rfl
  refine one_ (i := 13) (N := none) #[true, true, true, true, true, true, true, true, true, true, true, true, true, true, false] rfl rfl (one_of HT_.out (by kernel_rfl)) (by decide) (fun K hK => ?_)
  have Xc : qA.cell? ⟨je, 0, none⟩ = some (.bool false) := (blk_cell jn.out 0).trans rfl
  have hfs28 := blk_frozen jn.out 0
  have hns28_0 := jq.out
  have hns28_1 := jr.out
  have hns28_2 := jy.out
  have hns28_3 := jz.out
  have hns28_5 := jA.out
  have hms28_0 := jC.out
  have hms28_1 := jD.out
  have hms28_2 := js.out
  have hms28_3 := jt.out
  have hms28_5 := jB.out
  have Xd : qA.cell? ⟨je, 1, none⟩ = some (.slice none 0 0) := (blk_cell jn.out 1).trans rfl
  have hfs30 := blk_frozen jn.out 1
  have hns30_0 := jq.out
  have hns30_1 := jr.out
  have hns30_2 := jy.out
  have hns30_3 := jz.out
  have hns30_5 := jA.out
  have hms30_0 := jC.out
  have hms30_1 := jD.out
  have hms30_2 := js.out
  have hms30_3 := jt.out
  have hms30_5 := jB.out
  refine skip_ (w1 := ?_) (by rfl) rfl ?_ ?_
  rotate_left
  ·
   go_simp
   rfl
  refine hK.out _ _ ⟨((cell_far (p := ⟨je, _, none⟩) jq.out _).trans (((cell_far (p := ⟨je, _, none⟩) jq.out _).trans (hHeld.1)))), ((cell_far (p := ⟨je, _, none⟩) jq.out _).trans (((cell_far (p := ⟨je, _, none⟩) jq.out _).trans (hHeld.2.1)))), ((cell_far (p := ⟨je, _, none⟩) jr.out _).trans (((cell_far (p := ⟨je, _, none⟩) jr.out _).trans (hHeld.2.2.1)))), ((cell_far (p := ⟨je, _, none⟩) jr.out _).trans (((cell_far (p := ⟨je, _, none⟩) jr.out _).trans (hHeld.2.2.2))))⟩ (fun hHeld => ?_)
  clear hK K
  refine one_ (i := 14) (N := none) #[true, true, true, true, true, true, true, true, true, true, true, true, true, true, true] rfl rfl (one_of HT_.out (by kernel_rfl)) (by decide) (fun K hK => ?_)
  have Xe : qA.cell? ⟨jc, 0, none⟩ = some (.bool false) := (blk_cell jm.out 0).trans rfl
  have hfs31 := blk_frozen jm.out 0
  have hns31_0 := ju.out
  have hns31_1 := jv.out
  have hns31_2 := jw.out
  have hns31_3 := jx.out
  have hns31_4 := jB.out
  have hms31_0 := jE.out
  have hms31_1 := jF.out
  have hms31_2 := jo.out
  have hms31_3 := jp.out
  have hms31_4 := jA.out
  have Xf : qA.cell? ⟨jc, 1, none⟩ = some (.slice none 0 0) := (blk_cell jm.out 1).trans rfl
  have hfs33 := blk_frozen jm.out 1
  have hns33_0 := ju.out
  have hns33_1 := jv.out
  have hns33_2 := jw.out
  have hns33_3 := jx.out
  have hns33_4 := jB.out
  have hms33_0 := jE.out
  have hms33_1 := jF.out
  have hms33_2 := jo.out
  have hms33_3 := jp.out
  have hms33_4 := jA.out
  refine skip_ (w1 := ?_) (by rfl) rfl ?_ ?_
  rotate_left
  ·
   go_simp
   rfl
  refine hK.out _ _ ⟨((cell_far (p := ⟨jc, _, none⟩) ju.out _).trans (((cell_far (p := ⟨jc, _, none⟩) ju.out _).trans (hHeld.1)))), ((cell_far (p := ⟨jc, _, none⟩) ju.out _).trans (((cell_far (p := ⟨jc, _, none⟩) ju.out _).trans (hHeld.2.1)))), ((cell_far (p := ⟨jc, _, none⟩) jv.out _).trans (((cell_far (p := ⟨jc, _, none⟩) jv.out _).trans (hHeld.2.2.1)))), ((cell_far (p := ⟨jc, _, none⟩) jv.out _).trans (((cell_far (p := ⟨jc, _, none⟩) jv.out _).trans (hHeld.2.2.2))))⟩ (fun hHeld => ?_)
  clear hK K
  refine done_ (done_of HT_.out (by kernel_rfl)) ?_
  go_upto_region 5 with (fail)
  go_cut [47] (fun Xg wc => ∃ (kq : Nat) (qU : Bool), Xg = .bool qU ∧ Aside0 (whole_Floor.j0 kq qU a1_0 l1_1 qe jW qo jZ = some (r1, r2, r3, r4, r5)) ∧ Aside0 (kq ≤ k) ∧ Aside0 (Kd.R (Kd.int .u32) 78 wc w.heap.size (fun k_ => some k_ ≠ ((.slice qt jZ.length qu) : Value).ownBlock) (.slice qr jW.length qs) jW) ∧ Aside0 (Kd.R (Kd.int .u32) 78 wc w.heap.size (fun k_ => some k_ ≠ ((.slice qr jW.length qs) : Value).ownBlock) (.slice qt jZ.length qu) jZ) ∧ Aside0 (wc.heap[jh]? = some (.cells #[.bool a0_0, (.slice jT l0_1.length jU)] 25 (0, 0))) ∧ Aside0 (wc.heap[jg]? = some (.cells #[.bool a1_0, (.slice jP l1_1.length jQ)] 25 (0, 0))) ∧ Aside0 (wc.heap[ji]? = some (.cells #[.bool false, (.slice none 0 0)] 25 (0, 0))) ∧ Aside0 (wc.heap[jj]? = some (.cells #[.bool false, (.slice none 0 0)] 25 (0, 0))) ∧ Aside0 (wc.heap[je]? = some (.cells #[.bool qe, (.slice qr jW.length qs)] 25 (0, 0))) ∧ Aside0 (wc.heap[jc]? = some (.cells #[.bool qo, (.slice qt jZ.length qu)] 25 (0, 0))) ∧ Aside0 (Below w.heap.size w wc))
  case first =>
   have H := z1.out
   clear z1
   by_cases qZ : (a0_0 != a1_0) = true
   ·
    rw [if_pos qZ] at H
    have c34b0 : (a0_0 != a1_0) = true := qZ
    (try (have c34b1 : decide (a0_0 = a1_0) = false := by simpa using qZ))
    (try (have c34b2 : (a0_0 == a1_0) = false := by simpa using qZ))
    (try (have c34b3 : ¬ (a0_0 = a1_0) := by simpa using qZ))
    clear qZ
    (skip)
    have H' := am H
    clear H
    have uj := qv.out
    have uk := qw.out
    have ul := j4.out
    have um := j5.out
    have un := j8.out
    have uo := j9.out
    have up := jq.out
    have uq := jC.out
    have ur := ju.out
    have us := jE.out
    have zz : qA.cell? ⟨jh, 0, none⟩ = some (.bool a0_0) := (blk_cell jb.out 0).trans rfl
    have zA : qA.cell? ⟨jh, 1, none⟩ = some (.slice jT l0_1.length jU) := (blk_cell jb.out 1).trans rfl
    have zB := blk_frozen jb.out 0
    have zC := blk_frozen jb.out 1
    have ut := j6.out
    have uu := j7.out
    have uv := qa.out
    have uw := qb.out
    have ux := jr.out
    have uy := jD.out
    have uz := jv.out
    have uA := jF.out
    have zD : qA.cell? ⟨jg, 0, none⟩ = some (.bool a1_0) := (blk_cell ja.out 0).trans rfl
    have zE : qA.cell? ⟨jg, 1, none⟩ = some (.slice jP l1_1.length jQ) := (blk_cell ja.out 1).trans rfl
    have zF := blk_frozen ja.out 0
    have zG := blk_frozen ja.out 1
    have uB := jo.out
    have uC := jw.out
    have uD := jp.out
    have uE := jx.out
    have uF := jA.out
    have uG := jB.out
    have zH : qA.cell? ⟨jc, 0, none⟩ = some (.bool false) := (blk_cell jm.out 0).trans rfl
    have zI : qA.cell? ⟨jc, 1, none⟩ = some (.slice none 0 0) := (blk_cell jm.out 1).trans rfl
    have zJ := blk_frozen jm.out 0
    have zK := blk_frozen jm.out 1
    go_wp2
    go_meet
    case rel => exact ⟨_, (decide ((jZ.length : Int) > 0)), (by (simp; done)), H', ⟨by omega⟩, ⟨by exact Kd.R_mono (Kd.R_far (p := ⟨jc, 1, none⟩) (Kd.R_far (p := ⟨jc, 0, none⟩) (Kd.R_far (p := ⟨je, 1, none⟩) (Kd.R_far (p := ⟨je, 0, none⟩) (Kd.R_types (Kd.R_types jK.out jn.out (by decide)) jm.out (by decide)) (fun _ hk => hk.1.2) (.bool qe)) (fun _ hk => hk.1.2) (.slice qr jW.length qs)) (fun _ hk => hk.2) (.bool qo)) (fun _ hk => hk.2) (.slice qt jZ.length qu)) (fun _ hk => hk.1.1.2.2)⟩, ⟨by exact Kd.R_mono (Kd.R_far (p := ⟨jc, 1, none⟩) (Kd.R_far (p := ⟨jc, 0, none⟩) (Kd.R_far (p := ⟨je, 1, none⟩) (Kd.R_far (p := ⟨je, 0, none⟩) (Kd.R_types (Kd.R_types j1.out jn.out (by decide)) jm.out (by decide)) (fun _ hk => hk.1.2) (.bool qe)) (fun _ hk => hk.1.2) (.slice qr jW.length qs)) (fun _ hk => hk.2) (.bool qo)) (fun _ hk => hk.2) (.slice qt jZ.length qu)) (fun _ hk => hk.1.1.2.2)⟩, ⟨by refine blk_far ?_ ju.out _; refine blk_far ?_ ju.out _; refine blk_far ?_ jq.out _; refine blk_far ?_ jq.out _; exact jb.out⟩, ⟨by refine blk_far ?_ jv.out _; refine blk_far ?_ jv.out _; refine blk_far ?_ jr.out _; refine blk_far ?_ jr.out _; exact ja.out⟩, ⟨by refine blk_far ?_ jw.out _; refine blk_far ?_ jw.out _; refine blk_far ?_ jy.out _; refine blk_far ?_ jy.out _; exact jd.out⟩, ⟨by refine blk_far ?_ jx.out _; refine blk_far ?_ jx.out _; refine blk_far ?_ jz.out _; refine blk_far ?_ jz.out _; exact jf.out⟩, ⟨by refine blk_far ?_ jB.out _; refine blk_far ?_ jB.out _; refine blk_put (cs := #[.bool qe, .slice none 0 0]) ?_ 1 _ rfl; refine blk_put (cs := #[.bool false, .slice none 0 0]) ?_ 0 _ rfl; exact jn.out⟩, ⟨by refine blk_put (cs := #[.bool qo, .slice none 0 0]) ?_ 1 _ rfl; refine blk_put (cs := #[.bool false, .slice none 0 0]) ?_ 0 _ rfl; refine blk_far ?_ jA.out _; refine blk_far ?_ jA.out _; exact jm.out⟩, ⟨by repeat ((with_reducible first | exact HB.out | refine below_set ?_ jX.out | refine below_set ?_ jY.out))⟩⟩
   ·
    rw [if_neg qZ] at H
    have c34b0 : (a0_0 != a1_0) = false := by simpa using qZ
    (try (have c34b1 : decide (a0_0 = a1_0) = true := by simpa using qZ))
    (try (have c34b2 : (a0_0 == a1_0) = true := by simpa using qZ))
    clear qZ
    (skip)
    have H' := am H
    clear H
    have uH := qv.out
    have uI := qw.out
    have uJ := j4.out
    have uK := j5.out
    have uL := j8.out
    have uM := j9.out
    have uN := jq.out
    have uO := jC.out
    have uP := ju.out
    have uQ := jE.out
    have zL : qA.cell? ⟨jh, 0, none⟩ = some (.bool a0_0) := (blk_cell jb.out 0).trans rfl
    have zM : qA.cell? ⟨jh, 1, none⟩ = some (.slice jT l0_1.length jU) := (blk_cell jb.out 1).trans rfl
    have zN := blk_frozen jb.out 0
    have zO := blk_frozen jb.out 1
    have uR := j6.out
    have uS := j7.out
    have uT := qa.out
    have uU := qb.out
    have uV := jr.out
    have uW := jD.out
    have uX := jv.out
    have uY := jF.out
    have zP : qA.cell? ⟨jg, 0, none⟩ = some (.bool a1_0) := (blk_cell ja.out 0).trans rfl
    have zQ : qA.cell? ⟨jg, 1, none⟩ = some (.slice jP l1_1.length jQ) := (blk_cell ja.out 1).trans rfl
    have zR := blk_frozen ja.out 0
    have zS := blk_frozen ja.out 1
    go_wp2
    go_meet
    case rel => exact ⟨_, (false), (by rfl), H', ⟨by omega⟩, ⟨by exact Kd.R_mono (Kd.R_far (p := ⟨jc, 1, none⟩) (Kd.R_far (p := ⟨jc, 0, none⟩) (Kd.R_far (p := ⟨je, 1, none⟩) (Kd.R_far (p := ⟨je, 0, none⟩) (Kd.R_types (Kd.R_types jK.out jn.out (by decide)) jm.out (by decide)) (fun _ hk => hk.1.2) (.bool qe)) (fun _ hk => hk.1.2) (.slice qr jW.length qs)) (fun _ hk => hk.2) (.bool qo)) (fun _ hk => hk.2) (.slice qt jZ.length qu)) (fun _ hk => hk.1.1.2.2)⟩, ⟨by exact Kd.R_mono (Kd.R_far (p := ⟨jc, 1, none⟩) (Kd.R_far (p := ⟨jc, 0, none⟩) (Kd.R_far (p := ⟨je, 1, none⟩) (Kd.R_far (p := ⟨je, 0, none⟩) (Kd.R_types (Kd.R_types j1.out jn.out (by decide)) jm.out (by decide)) (fun _ hk => hk.1.2) (.bool qe)) (fun _ hk => hk.1.2) (.slice qr jW.length qs)) (fun _ hk => hk.2) (.bool qo)) (fun _ hk => hk.2) (.slice qt jZ.length qu)) (fun _ hk => hk.1.1.2.2)⟩, ⟨by refine blk_far ?_ ju.out _; refine blk_far ?_ ju.out _; refine blk_far ?_ jq.out _; refine blk_far ?_ jq.out _; exact jb.out⟩, ⟨by refine blk_far ?_ jv.out _; refine blk_far ?_ jv.out _; refine blk_far ?_ jr.out _; refine blk_far ?_ jr.out _; exact ja.out⟩, ⟨by refine blk_far ?_ jw.out _; refine blk_far ?_ jw.out _; refine blk_far ?_ jy.out _; refine blk_far ?_ jy.out _; exact jd.out⟩, ⟨by refine blk_far ?_ jx.out _; refine blk_far ?_ jx.out _; refine blk_far ?_ jz.out _; refine blk_far ?_ jz.out _; exact jf.out⟩, ⟨by refine blk_far ?_ jB.out _; refine blk_far ?_ jB.out _; refine blk_put (cs := #[.bool qe, .slice none 0 0]) ?_ 1 _ rfl; refine blk_put (cs := #[.bool false, .slice none 0 0]) ?_ 0 _ rfl; exact jn.out⟩, ⟨by refine blk_put (cs := #[.bool qo, .slice none 0 0]) ?_ 1 _ rfl; refine blk_put (cs := #[.bool false, .slice none 0 0]) ?_ 0 _ rfl; refine blk_far ?_ jA.out _; refine blk_far ?_ jA.out _; exact jm.out⟩, ⟨by repeat ((with_reducible first | exact HB.out | refine below_set ?_ jX.out | refine below_set ?_ jY.out))⟩⟩
  case rest =>
   clear z1
   obtain ⟨kq, qU, rfl, HA, HJ6, jI, jJ, jb, ja, jd, jf, jn, jm, HB⟩ := hcut
   cases kq with
   | zero => exact absurd HA.out (by simp [whole_Floor.j0])
   | succ kj6 =>
    have H := HA.out
    clear HA
    simp only [whole_Floor.j0] at H
    by_cases zT : qU = true
    ·
     subst zT
     rw [if_pos rfl] at H
     obtain ⟨qD, hy393⟩ : ∃ y_ : List Int, y_ = (([1] : List Int)) := ⟨_, rfl⟩
     replace H : ((whole_norm.f kj6 true qD).bind fun bt396 => ((whole_add.f kj6 qe jW bt396.1 bt396.2).bind fun bt400 => ((whole_add.f kj6 qo jZ a1_0 l1_1).bind fun bt404 => (some (bt400.1, bt400.2, bt404.1, bt404.2, 0))))) = some (r1, r2, r3, r4, r5) := by (rw [hy393]; with_reducible exact H)
     have zd := am hy393
     clear hy393
     obtain ⟨⟨q6, qE⟩, Xh, H⟩ := bindE H
     dsimp only at H
     obtain ⟨⟨ql, qc⟩, Xi, H⟩ := bindE H
     dsimp only at H
     obtain ⟨⟨qm, qd⟩, Xj, H⟩ := bindE H
     dsimp only at H
     simp only [Option.some.injEq, Prod.mk.injEq] at H
     obtain ⟨rfl, rfl, rfl, rfl, rfl⟩ := H
     try go_wp2
     replace jI := am (Kd.R_drew jI.out)
     replace jJ := am (Kd.R_drew jJ.out)
     replace jb := am (blk_drew jb.out)
     replace ja := am (blk_drew ja.out)
     replace jd := am (blk_drew jd.out)
     replace jf := am (blk_drew jf.out)
     replace jn := am (blk_drew jn.out)
     replace jm := am (blk_drew jm.out)
     replace HB := am (below_drew1 HB.out)
     refine start_ (n := 9) (S := fun w' => w'.cell? ⟨je, 0, none⟩ = some (.bool qe) ∧ w'.cell? ⟨je, 1, none⟩ = some (.slice qr jW.length qs) ∧ w'.cell? ⟨jc, 0, none⟩ = some (.bool qo) ∧ w'.cell? ⟨jc, 1, none⟩ = some (.slice qt jZ.length qu) ∧ w'.cell? ⟨jg, 0, none⟩ = some (.bool a1_0) ∧ w'.cell? ⟨jg, 1, none⟩ = some (.slice jP l1_1.length jQ)) (ds := [7, 8]) #[false, false, false, false, false, false, false, false, false] (by kernel_rfl) rfl rfl ⟨(blk_cell jn.out 0).trans rfl, (blk_cell jn.out 1).trans rfl, (blk_cell jm.out 0).trans rfl, (blk_cell jm.out 1).trans rfl, (blk_cell ja.out 0).trans rfl, (blk_cell ja.out 1).trans rfl⟩ (fun hHeld => ?_); refine with_tabW whole_Floor.tab6 whole_Floor.bits6 (fun HT_ HW_ => ?_)
     generalize wc.drew = XD at jI jJ jb ja jd jf jn jm HB hHeld ⊢
     refine take_ (i := 0) (N := some 48) (v := ?_) (a' := ?_) #[true, false, false, false, false, false, false, false, false] rfl rfl (take_ofW HT_.out HW_.out (by kernel_rfl)) (fun _ _ _ h => h) (Or.inl ⟨by rfl, ?_⟩) hHeld ?_ ?_
     rotate_left
     ·
      rintro w' ⟨s0, s1, s2, s3, s4, s5⟩
      go_simp
      with_reducible rfl
     rotate_left
     ·
      simp only [Act.put, sI_, s0_, s1_, i64_w, i32_w]
      rfl
     refine take_ (i := 4) (N := some 52) (v := ?_) (a' := ?_) #[true, false, false, false, true, false, false, false, false] rfl rfl (take_ofW HT_.out HW_.out (by kernel_rfl)) (fun _ _ _ h => h) (Or.inl ⟨by rfl, ?_⟩) hHeld ?_ ?_
     rotate_left
     ·
      rintro w' ⟨s0, s1, s2, s3, s4, s5⟩
      go_simp
      with_reducible rfl
     rotate_left
     ·
      simp only [Act.put, sI_, s0_, s1_, i64_w, i32_w]
      rfl
     refine take_ (i := 5) (N := some 53) (v := ?_) (a' := ?_) #[true, false, false, false, true, true, false, false, false] rfl rfl (take_ofW HT_.out HW_.out (by kernel_rfl)) (fun _ _ _ h => h) (Or.inl ⟨by rfl, ?_⟩) hHeld ?_ ?_
     rotate_left
     ·
      rintro w' ⟨s0, s1, s2, s3, s4, s5⟩
      go_simp
      with_reducible rfl
     rotate_left
     ·
      simp only [Act.put, sI_, s0_, s1_, i64_w, i32_w]
      rfl
     refine one_ (i := 1) (N := some 49) #[true, true, false, false, true, true, false, false, false] rfl rfl (one_of HT_.out (by kernel_rfl)) (by decide) (fun K hK => ?_)
     refine Kd.R_lit_step (Kd.int .u32) _ 78 ?hg (N := 49) ?hd (xs := ([1] : List Int)) (inner := [.int .u32 1]) (ok := fun _ => True) (okp := fun _ => True) ?hr ?hp (fun _ hk => hk) trivial (Below.refl _ _) (Nat.le_refl _) (by simp) ?_; (case hd => rfl); (case hg => rfl); (case hr => (go_simp; done)); (case hp => exact (Reps.one (show Kd.M (Kd.int .u32) _ _ _ 1 [.int .u32 1] from rfl) (Reps.none _ _)))
     intro Xk XE ho67 hb hg_ hnew_
     clear hg_ hnew_
     (rw [← zd.out] at ho67)
     have qn := am (Kd.R_lower (Kd.R_new' (Kd.R_new' ho67 (Kd.R_lt jI.out)) (Kd.R_lt jJ.out)) (below_size HB.out))
     replace jI := am (Kd.R_elder' jI.out (Kd.R_base ho67) hb)
     replace jJ := am (Kd.R_elder' jJ.out (Kd.R_base ho67) hb)
     replace jb := am (blk_below jb.out hb)
     replace ja := am (blk_below ja.out hb)
     replace jd := am (blk_below jd.out hb)
     replace jf := am (blk_below jf.out hb)
     replace jn := am (blk_below jn.out hb)
     replace jm := am (blk_below jm.out hb)
     replace HB := am (below_step HB.out hb)
     clear hb ho67
     obtain ⟨qJ, qK, eo68⟩ := Kd.R_slice qn.out
     (subst eo68)
     refine hK.out _ _ ⟨(blk_cell jn.out 0).trans rfl, (blk_cell jn.out 1).trans rfl, (blk_cell jm.out 0).trans rfl, (blk_cell jm.out 1).trans rfl, (blk_cell ja.out 0).trans rfl, (blk_cell ja.out 1).trans rfl⟩ (fun hHeld => ?_)
     clear hK K
     refine norm_ (a' := ?_) ?_ ?_
     rotate_left
     ·
      show Act.put _ (some 49) _ = _
      simp only [Act.put, sI_, s0_, s1_, i64_w, i32_w]
      rfl
     refine one_ (i := 2) (N := some 50) #[true, true, true, false, true, true, false, false, false] rfl rfl (one_of HT_.out (by kernel_rfl)) (by decide) (fun K hK => ?_)
     refine goes_ Try.func47 (by kernel_rfl) rfl #[.bool true, .slice qJ qD.length qK] (by rfl) rfl rfl (by (try simp only [List.map_toArray, List.map_cons, List.map_nil]); rfl) ?_
     with_reducible refine (whole_norm.calls kj6 true _ _ qD q6 qE _ ?side1 ?side2 Xh.out).mono ?_
     (case side1 => exact (Kd.R_reads' qn.out).2.2)
     (case side2 => exact (Kd.R_reads' qn.out).2.1)
     rintro e XF ⟨Xl, rfl, ho0, hb⟩
     refine ⟨_, rfl, ?_⟩
     have qq := am (Kd.R_lower (Kd.R_new' (Kd.R_new' (Kd.R_new' ho0 (Kd.R_lt jI.out)) (Kd.R_lt jJ.out)) (Kd.R_lt qn.out)) (below_size HB.out))
     replace jI := am (Kd.R_elder' jI.out (Kd.R_base ho0) hb)
     replace jJ := am (Kd.R_elder' jJ.out (Kd.R_base ho0) hb)
     replace qn := am (Kd.R_elder' qn.out (Kd.R_base ho0) hb)
     replace jb := am (blk_below jb.out hb)
     replace ja := am (blk_below ja.out hb)
     replace jd := am (blk_below jd.out hb)
     replace jf := am (blk_below jf.out hb)
     replace jn := am (blk_below jn.out hb)
     replace jm := am (blk_below jm.out hb)
     replace HB := am (below_step HB.out hb)
     try clear hb
     try clear ho0
     obtain ⟨qL, qM, eo70⟩ := Kd.R_slice qq.out
     (subst eo70)
     refine hK.out _ _ ⟨(blk_cell jn.out 0).trans rfl, (blk_cell jn.out 1).trans rfl, (blk_cell jm.out 0).trans rfl, (blk_cell jm.out 1).trans rfl, (blk_cell ja.out 0).trans rfl, (blk_cell ja.out 1).trans rfl⟩ (fun hHeld => ?_)
     clear hK K
     refine norm_ (a' := ?_) ?_ ?_
     rotate_left
     ·
      show Act.put _ (some 50) _ = _
      simp only [Act.put, sI_, s0_, s1_, i64_w, i32_w]
      rfl
     refine one_ (i := 3) (N := some 51) #[true, true, true, true, true, true, false, false, false] rfl rfl (one_of HT_.out (by kernel_rfl)) (by decide) (fun K hK => ?_)
     refine goes_ Try.func48 (by kernel_rfl) rfl #[.agg #[.bool qe, .slice qr jW.length qs], .agg #[.bool q6, .slice qL qE.length qM]] (by rfl) rfl rfl (by (try simp only [List.map_toArray, List.map_cons, List.map_nil]); rfl) ?_
     with_reducible refine (whole_add.calls kj6 qe _ _ jW q6 _ _ qE ql qc _ ?side1 ?side2 ?side3 ?side4 Xi.out).mono ?_
     (case side1 => exact (Kd.R_reads' jI.out).2.2)
     (case side2 => exact (Kd.R_reads' jI.out).2.1)
     (case side3 => exact (Kd.R_reads' qq.out).2.2)
     (case side4 => exact (Kd.R_reads' qq.out).2.1)
     rintro e XG ⟨Xm, rfl, ho0, hb⟩
     refine ⟨_, rfl, ?_⟩
     have qz := am (Kd.R_lower (Kd.R_new' (Kd.R_new' (Kd.R_new' (Kd.R_new' ho0 (Kd.R_lt jI.out)) (Kd.R_lt jJ.out)) (Kd.R_lt qn.out)) (Kd.R_lt qq.out)) (below_size HB.out))
     replace jI := am (Kd.R_elder' jI.out (Kd.R_base ho0) hb)
     replace jJ := am (Kd.R_elder' jJ.out (Kd.R_base ho0) hb)
     replace qn := am (Kd.R_elder' qn.out (Kd.R_base ho0) hb)
     replace qq := am (Kd.R_elder' qq.out (Kd.R_base ho0) hb)
     replace jb := am (blk_below jb.out hb)
     replace ja := am (blk_below ja.out hb)
     replace jd := am (blk_below jd.out hb)
     replace jf := am (blk_below jf.out hb)
     replace jn := am (blk_below jn.out hb)
     replace jm := am (blk_below jm.out hb)
     replace HB := am (below_step HB.out hb)
     try clear hb
     try clear ho0
     refine hK.out _ _ ⟨(blk_cell jn.out 0).trans rfl, (blk_cell jn.out 1).trans rfl, (blk_cell jm.out 0).trans rfl, (blk_cell jm.out 1).trans rfl, (blk_cell ja.out 0).trans rfl, (blk_cell ja.out 1).trans rfl⟩ (fun hHeld => ?_)
     clear hK K
     refine norm_ (a' := ?_) ?_ ?_
     rotate_left
     ·
      show Act.put _ (some 51) _ = _
      simp only [Act.put, sI_, s0_, s1_, i64_w, i32_w]
      rfl
     refine one_ (i := 6) (N := some 54) #[true, true, true, true, true, true, true, false, false] rfl rfl (one_of HT_.out (by kernel_rfl)) (by decide) (fun K hK => ?_)
     refine goes_ Try.func48 (by kernel_rfl) rfl #[.agg #[.bool qo, .slice qt jZ.length qu], .agg #[.bool a1_0, .slice jP l1_1.length jQ]] (by rfl) rfl rfl (by (try simp only [List.map_toArray, List.map_cons, List.map_nil]); rfl) ?_
     with_reducible refine (whole_add.calls kj6 qo _ _ jZ a1_0 _ _ l1_1 qm qd _ ?side1 ?side2 ?side3 ?side4 Xj.out).mono ?_
     (case side1 => exact (Kd.R_reads' jJ.out).2.2)
     (case side2 => exact (Kd.R_reads' jJ.out).2.1)
     (case side3 => repeat (exact (Kd.C_below qV.out HB.out)))
     (case side4 => exact qW.out)
     rintro e qH ⟨Xn, rfl, ho0, hb⟩
     refine ⟨_, rfl, ?_⟩
     have qC := am (Kd.R_lower (Kd.R_new' (Kd.R_new' (Kd.R_new' (Kd.R_new' (Kd.R_new' ho0 (Kd.R_lt jI.out)) (Kd.R_lt jJ.out)) (Kd.R_lt qn.out)) (Kd.R_lt qq.out)) (Kd.R_lt qz.out)) (below_size HB.out))
     replace jI := am (Kd.R_elder' jI.out (Kd.R_base ho0) hb)
     replace jJ := am (Kd.R_elder' jJ.out (Kd.R_base ho0) hb)
     replace qn := am (Kd.R_elder' qn.out (Kd.R_base ho0) hb)
     replace qq := am (Kd.R_elder' qq.out (Kd.R_base ho0) hb)
     replace qz := am (Kd.R_elder' qz.out (Kd.R_base ho0) hb)
     replace jb := am (blk_below jb.out hb)
     replace ja := am (blk_below ja.out hb)
     replace jd := am (blk_below jd.out hb)
     replace jf := am (blk_below jf.out hb)
     replace jn := am (blk_below jn.out hb)
     replace jm := am (blk_below jm.out hb)
     replace HB := am (below_step HB.out hb)
     try clear hb
     try clear ho0
     obtain ⟨qg, qh, eo74⟩ := Kd.R_slice qz.out
     (subst eo74)
     obtain ⟨qi, qj, eo77⟩ := Kd.R_slice qC.out
     (subst eo77)
     refine hK.out _ _ ⟨(blk_cell jn.out 0).trans rfl, (blk_cell jn.out 1).trans rfl, (blk_cell jm.out 0).trans rfl, (blk_cell jm.out 1).trans rfl, (blk_cell ja.out 0).trans rfl, (blk_cell ja.out 1).trans rfl⟩ (fun hHeld => ?_)
     clear hK K
     refine norm_ (a' := ?_) ?_ ?_
     rotate_left
     ·
      show Act.put _ (some 54) _ = _
      simp only [Act.put, sI_, s0_, s1_, i64_w, i32_w]
      rfl
     refine last_ (i := 7) (N := none) #[true, true, true, true, true, true, true, true, false] rfl rfl (one_of HT_.out (by kernel_rfl)) (by decide) (fun K hK => ?_)
     have Xo : qH.cell? ⟨je, 0, none⟩ = some (.bool qe) := (blk_cell jn.out 0).trans rfl
     have hfs73 := blk_frozen jn.out 0
     have hns73_0 := jq.out
     have hns73_1 := jr.out
     have hns73_2 := jy.out
     have hns73_3 := jz.out
     have hns73_5 := jA.out
     have hms73_0 := jC.out
     have hms73_1 := jD.out
     have hms73_2 := js.out
     have hms73_3 := jt.out
     have hms73_5 := jB.out
     have Xp : qH.cell? ⟨je, 1, none⟩ = some (.slice qr jW.length qs) := (blk_cell jn.out 1).trans rfl
     have hfs75 := blk_frozen jn.out 1
     have hns75_0 := jq.out
     have hns75_1 := jr.out
     have hns75_2 := jy.out
     have hns75_3 := jz.out
     have hns75_5 := jA.out
     have hms75_0 := jC.out
     have hms75_1 := jD.out
     have hms75_2 := js.out
     have hms75_3 := jt.out
     have hms75_5 := jB.out
     refine skip_ (w1 := ?_) (by rfl) rfl ?_ ?_
     rotate_left
     ·
      go_simp
      rfl
     refine hK.out _ _ ?_
     clear hK K
     refine last_ (i := 8) (N := none) #[true, true, true, true, true, true, true, true, true] rfl rfl (one_of HT_.out (by kernel_rfl)) (by decide) (fun K hK => ?_)
     have Xq : qH.cell? ⟨jc, 0, none⟩ = some (.bool qo) := (blk_cell jm.out 0).trans rfl
     have hfs76 := blk_frozen jm.out 0
     have hns76_0 := ju.out
     have hns76_1 := jv.out
     have hns76_2 := jw.out
     have hns76_3 := jx.out
     have hns76_4 := jB.out
     have hms76_0 := jE.out
     have hms76_1 := jF.out
     have hms76_2 := jo.out
     have hms76_3 := jp.out
     have hms76_4 := jA.out
     have Xr : qH.cell? ⟨jc, 1, none⟩ = some (.slice qt jZ.length qu) := (blk_cell jm.out 1).trans rfl
     have hfs78 := blk_frozen jm.out 1
     have hns78_0 := ju.out
     have hns78_1 := jv.out
     have hns78_2 := jw.out
     have hns78_3 := jx.out
     have hns78_4 := jB.out
     have hms78_0 := jE.out
     have hms78_1 := jF.out
     have hms78_2 := jo.out
     have hms78_3 := jp.out
     have hms78_4 := jA.out
     refine skip_ (w1 := ?_) (by rfl) rfl ?_ ?_
     rotate_left
     ·
      go_simp
      rfl
     refine hK.out _ _ ?_
     clear hK K
     refine done_ (done_of HT_.out (by kernel_rfl)) ?_
     try go_wp2
     have n0_ : Aside0 (Kd.R (Kd.int .u32) 78 ((((qH.setCell ⟨je, 0, none⟩ (.bool ql)).setCell ⟨je, 1, none⟩ (.slice qg qc.length qh)).setCell ⟨jc, 0, none⟩ (.bool qm)).setCell ⟨jc, 1, none⟩ (.slice qi qd.length qj)) w.heap.size (fun k_ => some k_ ≠ (.slice qt jZ.length qu : Value).ownBlock ∧ some k_ ≠ (.slice qJ qD.length qK : Value).ownBlock ∧ some k_ ≠ (.slice qL qE.length qM : Value).ownBlock ∧ some k_ ≠ (.slice qg qc.length qh : Value).ownBlock ∧ some k_ ≠ (.slice qi qd.length qj : Value).ownBlock) (.slice qr jW.length qs) jW) := ⟨by exact Kd.R_mono (Kd.R_far (p := ⟨jc, 1, none⟩) (Kd.R_far (p := ⟨jc, 0, none⟩) (Kd.R_far (p := ⟨je, 1, none⟩) (Kd.R_far (p := ⟨je, 0, none⟩) (Kd.R_types (Kd.R_types jI.out jn.out (by decide)) jm.out (by decide)) (fun _ hk => hk.1.2) (.bool ql)) (fun _ hk => hk.1.2) (.slice qg qc.length qh)) (fun _ hk => hk.2) (.bool qm)) (fun _ hk => hk.2) (.slice qi qd.length qj)) (fun _ hk => ⟨hk.1.1.1.1.1.1, ⟨hk.1.1.1.1.1.2, ⟨hk.1.1.1.1.2, ⟨hk.1.1.1.2, hk.1.1.2⟩⟩⟩⟩)⟩
     have n1_ : Aside0 (Kd.R (Kd.int .u32) 78 ((((qH.setCell ⟨je, 0, none⟩ (.bool ql)).setCell ⟨je, 1, none⟩ (.slice qg qc.length qh)).setCell ⟨jc, 0, none⟩ (.bool qm)).setCell ⟨jc, 1, none⟩ (.slice qi qd.length qj)) w.heap.size (fun k_ => some k_ ≠ (.slice qr jW.length qs : Value).ownBlock ∧ some k_ ≠ (.slice qJ qD.length qK : Value).ownBlock ∧ some k_ ≠ (.slice qL qE.length qM : Value).ownBlock ∧ some k_ ≠ (.slice qg qc.length qh : Value).ownBlock ∧ some k_ ≠ (.slice qi qd.length qj : Value).ownBlock) (.slice qt jZ.length qu) jZ) := ⟨by exact Kd.R_mono (Kd.R_far (p := ⟨jc, 1, none⟩) (Kd.R_far (p := ⟨jc, 0, none⟩) (Kd.R_far (p := ⟨je, 1, none⟩) (Kd.R_far (p := ⟨je, 0, none⟩) (Kd.R_types (Kd.R_types jJ.out jn.out (by decide)) jm.out (by decide)) (fun _ hk => hk.1.2) (.bool ql)) (fun _ hk => hk.1.2) (.slice qg qc.length qh)) (fun _ hk => hk.2) (.bool qm)) (fun _ hk => hk.2) (.slice qi qd.length qj)) (fun _ hk => ⟨hk.1.1.1.1.1.1, ⟨hk.1.1.1.1.1.2, ⟨hk.1.1.1.1.2, ⟨hk.1.1.1.2, hk.1.1.2⟩⟩⟩⟩)⟩
     have n2_ : Aside0 (Kd.R (Kd.int .u32) 78 ((((qH.setCell ⟨je, 0, none⟩ (.bool ql)).setCell ⟨je, 1, none⟩ (.slice qg qc.length qh)).setCell ⟨jc, 0, none⟩ (.bool qm)).setCell ⟨jc, 1, none⟩ (.slice qi qd.length qj)) w.heap.size (fun k_ => some k_ ≠ (.slice qr jW.length qs : Value).ownBlock ∧ some k_ ≠ (.slice qt jZ.length qu : Value).ownBlock ∧ some k_ ≠ (.slice qL qE.length qM : Value).ownBlock ∧ some k_ ≠ (.slice qg qc.length qh : Value).ownBlock ∧ some k_ ≠ (.slice qi qd.length qj : Value).ownBlock) (.slice qJ qD.length qK) qD) := ⟨by exact Kd.R_mono (Kd.R_far (p := ⟨jc, 1, none⟩) (Kd.R_far (p := ⟨jc, 0, none⟩) (Kd.R_far (p := ⟨je, 1, none⟩) (Kd.R_far (p := ⟨je, 0, none⟩) (Kd.R_types (Kd.R_types qn.out jn.out (by decide)) jm.out (by decide)) (fun _ hk => hk.1.2) (.bool ql)) (fun _ hk => hk.1.2) (.slice qg qc.length qh)) (fun _ hk => hk.2) (.bool qm)) (fun _ hk => hk.2) (.slice qi qd.length qj)) (fun _ hk => ⟨hk.1.1.1.1.1.1.2, ⟨hk.1.1.1.1.1.2, ⟨hk.1.1.1.1.2, ⟨hk.1.1.1.2, hk.1.1.2⟩⟩⟩⟩)⟩
     have n3_ : Aside0 (Kd.R (Kd.int .u32) 78 ((((qH.setCell ⟨je, 0, none⟩ (.bool ql)).setCell ⟨je, 1, none⟩ (.slice qg qc.length qh)).setCell ⟨jc, 0, none⟩ (.bool qm)).setCell ⟨jc, 1, none⟩ (.slice qi qd.length qj)) w.heap.size (fun k_ => some k_ ≠ (.slice qr jW.length qs : Value).ownBlock ∧ some k_ ≠ (.slice qt jZ.length qu : Value).ownBlock ∧ some k_ ≠ (.slice qJ qD.length qK : Value).ownBlock ∧ some k_ ≠ (.slice qg qc.length qh : Value).ownBlock ∧ some k_ ≠ (.slice qi qd.length qj : Value).ownBlock) (.slice qL qE.length qM) qE) := ⟨by exact Kd.R_mono (Kd.R_far (p := ⟨jc, 1, none⟩) (Kd.R_far (p := ⟨jc, 0, none⟩) (Kd.R_far (p := ⟨je, 1, none⟩) (Kd.R_far (p := ⟨je, 0, none⟩) (Kd.R_types (Kd.R_types qq.out jn.out (by decide)) jm.out (by decide)) (fun _ hk => hk.1.2) (.bool ql)) (fun _ hk => hk.1.2) (.slice qg qc.length qh)) (fun _ hk => hk.2) (.bool qm)) (fun _ hk => hk.2) (.slice qi qd.length qj)) (fun _ hk => ⟨hk.1.1.1.1.1.1.2, ⟨hk.1.1.1.1.1.2, ⟨hk.1.1.1.1.2, ⟨hk.1.1.1.2, hk.1.1.2⟩⟩⟩⟩)⟩
     have n4_ : Aside0 (Kd.R (Kd.int .u32) 78 ((((qH.setCell ⟨je, 0, none⟩ (.bool ql)).setCell ⟨je, 1, none⟩ (.slice qg qc.length qh)).setCell ⟨jc, 0, none⟩ (.bool qm)).setCell ⟨jc, 1, none⟩ (.slice qi qd.length qj)) w.heap.size (fun k_ => some k_ ≠ (.slice qr jW.length qs : Value).ownBlock ∧ some k_ ≠ (.slice qt jZ.length qu : Value).ownBlock ∧ some k_ ≠ (.slice qJ qD.length qK : Value).ownBlock ∧ some k_ ≠ (.slice qL qE.length qM : Value).ownBlock ∧ some k_ ≠ (.slice qi qd.length qj : Value).ownBlock) (.slice qg qc.length qh) qc) := ⟨by exact Kd.R_mono (Kd.R_far (p := ⟨jc, 1, none⟩) (Kd.R_far (p := ⟨jc, 0, none⟩) (Kd.R_far (p := ⟨je, 1, none⟩) (Kd.R_far (p := ⟨je, 0, none⟩) (Kd.R_types (Kd.R_types qz.out jn.out (by decide)) jm.out (by decide)) (fun _ hk => hk.1.2) (.bool ql)) (fun _ hk => hk.1.2) (.slice qg qc.length qh)) (fun _ hk => hk.2) (.bool qm)) (fun _ hk => hk.2) (.slice qi qd.length qj)) (fun _ hk => ⟨hk.1.1.1.1.1.1.2, ⟨hk.1.1.1.1.1.2, ⟨hk.1.1.1.1.2, ⟨hk.1.1.1.2, hk.1.1.2⟩⟩⟩⟩)⟩
     have n5_ : Aside0 (Kd.R (Kd.int .u32) 78 ((((qH.setCell ⟨je, 0, none⟩ (.bool ql)).setCell ⟨je, 1, none⟩ (.slice qg qc.length qh)).setCell ⟨jc, 0, none⟩ (.bool qm)).setCell ⟨jc, 1, none⟩ (.slice qi qd.length qj)) w.heap.size (fun k_ => some k_ ≠ (.slice qr jW.length qs : Value).ownBlock ∧ some k_ ≠ (.slice qt jZ.length qu : Value).ownBlock ∧ some k_ ≠ (.slice qJ qD.length qK : Value).ownBlock ∧ some k_ ≠ (.slice qL qE.length qM : Value).ownBlock ∧ some k_ ≠ (.slice qg qc.length qh : Value).ownBlock) (.slice qi qd.length qj) qd) := ⟨by exact Kd.R_mono (Kd.R_far (p := ⟨jc, 1, none⟩) (Kd.R_far (p := ⟨jc, 0, none⟩) (Kd.R_far (p := ⟨je, 1, none⟩) (Kd.R_far (p := ⟨je, 0, none⟩) (Kd.R_types (Kd.R_types qC.out jn.out (by decide)) jm.out (by decide)) (fun _ hk => hk.1.2) (.bool ql)) (fun _ hk => hk.1.2) (.slice qg qc.length qh)) (fun _ hk => hk.2) (.bool qm)) (fun _ hk => hk.2) (.slice qi qd.length qj)) (fun _ hk => ⟨hk.1.1.1.1.1.1.2, ⟨hk.1.1.1.1.1.2, ⟨hk.1.1.1.1.2, ⟨hk.1.1.1.2, hk.1.1.2⟩⟩⟩⟩)⟩
     have n6_ : Aside0 (((((qH.setCell ⟨je, 0, none⟩ (.bool ql)).setCell ⟨je, 1, none⟩ (.slice qg qc.length qh)).setCell ⟨jc, 0, none⟩ (.bool qm)).setCell ⟨jc, 1, none⟩ (.slice qi qd.length qj)).heap[jh]? = some (.cells #[.bool a0_0, .slice jT l0_1.length jU] 25 (0, 0))) := ⟨by refine blk_far ?_ ju.out _; refine blk_far ?_ ju.out _; refine blk_far ?_ jq.out _; refine blk_far ?_ jq.out _; exact jb.out⟩
     have n7_ : Aside0 (((((qH.setCell ⟨je, 0, none⟩ (.bool ql)).setCell ⟨je, 1, none⟩ (.slice qg qc.length qh)).setCell ⟨jc, 0, none⟩ (.bool qm)).setCell ⟨jc, 1, none⟩ (.slice qi qd.length qj)).heap[jg]? = some (.cells #[.bool a1_0, .slice jP l1_1.length jQ] 25 (0, 0))) := ⟨by refine blk_far ?_ jv.out _; refine blk_far ?_ jv.out _; refine blk_far ?_ jr.out _; refine blk_far ?_ jr.out _; exact ja.out⟩
     have n8_ : Aside0 (((((qH.setCell ⟨je, 0, none⟩ (.bool ql)).setCell ⟨je, 1, none⟩ (.slice qg qc.length qh)).setCell ⟨jc, 0, none⟩ (.bool qm)).setCell ⟨jc, 1, none⟩ (.slice qi qd.length qj)).heap[ji]? = some (.cells #[.bool false, .slice none 0 0] 25 (0, 0))) := ⟨by refine blk_far ?_ jw.out _; refine blk_far ?_ jw.out _; refine blk_far ?_ jy.out _; refine blk_far ?_ jy.out _; exact jd.out⟩
     have n9_ : Aside0 (((((qH.setCell ⟨je, 0, none⟩ (.bool ql)).setCell ⟨je, 1, none⟩ (.slice qg qc.length qh)).setCell ⟨jc, 0, none⟩ (.bool qm)).setCell ⟨jc, 1, none⟩ (.slice qi qd.length qj)).heap[jj]? = some (.cells #[.bool false, .slice none 0 0] 25 (0, 0))) := ⟨by refine blk_far ?_ jx.out _; refine blk_far ?_ jx.out _; refine blk_far ?_ jz.out _; refine blk_far ?_ jz.out _; exact jf.out⟩
     have n10_ : Aside0 (((((qH.setCell ⟨je, 0, none⟩ (.bool ql)).setCell ⟨je, 1, none⟩ (.slice qg qc.length qh)).setCell ⟨jc, 0, none⟩ (.bool qm)).setCell ⟨jc, 1, none⟩ (.slice qi qd.length qj)).heap[je]? = some (.cells #[.bool ql, .slice qg qc.length qh] 25 (0, 0))) := ⟨by refine blk_far ?_ jB.out _; refine blk_far ?_ jB.out _; refine blk_put (cs := #[.bool ql, .slice qr jW.length qs]) ?_ 1 _ rfl; refine blk_put (cs := #[.bool qe, .slice qr jW.length qs]) ?_ 0 _ rfl; exact jn.out⟩
     have n11_ : Aside0 (((((qH.setCell ⟨je, 0, none⟩ (.bool ql)).setCell ⟨je, 1, none⟩ (.slice qg qc.length qh)).setCell ⟨jc, 0, none⟩ (.bool qm)).setCell ⟨jc, 1, none⟩ (.slice qi qd.length qj)).heap[jc]? = some (.cells #[.bool qm, .slice qi qd.length qj] 25 (0, 0))) := ⟨by refine blk_put (cs := #[.bool qm, .slice qt jZ.length qu]) ?_ 1 _ rfl; refine blk_put (cs := #[.bool qo, .slice qt jZ.length qu]) ?_ 0 _ rfl; refine blk_far ?_ jA.out _; refine blk_far ?_ jA.out _; exact jm.out⟩
     have n12_ : Aside0 (Below w.heap.size w ((((qH.setCell ⟨je, 0, none⟩ (.bool ql)).setCell ⟨je, 1, none⟩ (.slice qg qc.length qh)).setCell ⟨jc, 0, none⟩ (.bool qm)).setCell ⟨jc, 1, none⟩ (.slice qi qd.length qj))) := ⟨by repeat ((with_reducible first | exact HB.out | refine below_set ?_ jX.out | refine below_set ?_ jY.out))⟩
     try clear jI
     try clear jJ
     try clear qn
     try clear qq
     try clear qz
     try clear qC
     try clear jb
     try clear ja
     try clear jd
     try clear jf
     try clear jn
     try clear jm
     (try clear HB)
     generalize ((((qH.setCell ⟨je, 0, none⟩ (.bool ql)).setCell ⟨je, 1, none⟩ (.slice qg qc.length qh)).setCell ⟨jc, 0, none⟩ (.bool qm)).setCell ⟨jc, 1, none⟩ (.slice qi qd.length qj)) = Xs at n0_ n1_ n2_ n3_ n4_ n5_ n6_ n7_ n8_ n9_ n10_ n11_ n12_ ⊢
     have jI := n0_
     have jJ := n1_
     have qn := n2_
     have qq := n3_
     have qz := n4_
     have qC := n5_
     have jb := n6_
     have ja := n7_
     have jd := n8_
     have jf := n9_
     have jn := n10_
     have jm := n11_
     have HB := n12_
     clear n0_ n1_ n2_ n3_ n4_ n5_ n6_ n7_ n8_ n9_ n10_ n11_ n12_
     replace jI := am (Kd.R_drew jI.out)
     replace jJ := am (Kd.R_drew jJ.out)
     replace qn := am (Kd.R_drew qn.out)
     replace qq := am (Kd.R_drew qq.out)
     replace qz := am (Kd.R_drew qz.out)
     replace qC := am (Kd.R_drew qC.out)
     replace jb := am (blk_drew jb.out)
     replace ja := am (blk_drew ja.out)
     replace jd := am (blk_drew jd.out)
     replace jf := am (blk_drew jf.out)
     replace jn := am (blk_drew jn.out)
     replace jm := am (blk_drew jm.out)
     replace HB := am (below_drew1 HB.out)
     refine start_ (n := 5) (S := fun w' => w'.cell? ⟨je, 0, none⟩ = some (.bool ql) ∧ w'.cell? ⟨je, 1, none⟩ = some (.slice qg qc.length qh) ∧ w'.cell? ⟨jc, 0, none⟩ = some (.bool qm) ∧ w'.cell? ⟨jc, 1, none⟩ = some (.slice qi qd.length qj)) (ds := []) #[false, false, false, false, false] (by kernel_rfl) rfl rfl ⟨(blk_cell jn.out 0).trans rfl, (blk_cell jn.out 1).trans rfl, (blk_cell jm.out 0).trans rfl, (blk_cell jm.out 1).trans rfl⟩ (fun hHeld => ?_)
     generalize Xs.drew = zU at jI jJ qn qq qz qC jb ja jd jf jn jm HB hHeld ⊢
     refine take_ (i := 0) (N := some 55) (v := ?_) (a' := ?_) #[true, false, false, false, false] rfl rfl (by kernel_rfl) (fun _ _ _ h => h) (Or.inl ⟨by rfl, ?_⟩) hHeld ?_ ?_
     rotate_left
     ·
      rintro w' ⟨s0, s1, s2, s3⟩
      go_simp
      with_reducible rfl
     rotate_left
     ·
      simp only [Act.put, sI_, s0_, s1_, i64_w, i32_w]
      rfl
     refine take_ (i := 1) (N := some 56) (v := ?_) (a' := ?_) #[true, true, false, false, false] rfl rfl (by kernel_rfl) (fun _ _ _ h => h) (Or.inl ⟨by rfl, ?_⟩) hHeld ?_ ?_
     rotate_left
     ·
      rintro w' ⟨s0, s1, s2, s3⟩
      go_simp
      with_reducible rfl
     rotate_left
     ·
      simp only [Act.put, sI_, s0_, s1_, i64_w, i32_w]
      rfl
     refine one_ (i := 2) (N := none) #[true, true, true, false, false] rfl rfl (by kernel_rfl) (by decide) (fun K hK => ?_)
     have Xt : zU.cell? ⟨ji, 0, none⟩ = some (.bool false) := (blk_cell jd.out 0).trans rfl
     have hfs81 := blk_frozen jd.out 0
     have hns81_0 := j4.out
     have hns81_1 := j6.out
     have hns81_3 := jS.out
     have hns81_4 := js.out
     have hns81_5 := jo.out
     have hms81_0 := j5.out
     have hms81_1 := j7.out
     have hms81_3 := jR.out
     have hms81_4 := jy.out
     have hms81_5 := jw.out
     have Xu : zU.cell? ⟨ji, 1, none⟩ = some (.slice none 0 0) := (blk_cell jd.out 1).trans rfl
     have hfs82 := blk_frozen jd.out 1
     have hns82_0 := j4.out
     have hns82_1 := j6.out
     have hns82_3 := jS.out
     have hns82_4 := js.out
     have hns82_5 := jo.out
     have hms82_0 := j5.out
     have hms82_1 := j7.out
     have hms82_3 := jR.out
     have hms82_4 := jy.out
     have hms82_5 := jw.out
     refine skip_ (w1 := ?_) (by rfl) rfl ?_ ?_
     rotate_left
     ·
      go_simp
      rfl
     refine hK.out _ _ ⟨((cell_far (p := ⟨ji, _, none⟩) js.out _).trans (((cell_far (p := ⟨ji, _, none⟩) js.out _).trans (hHeld.1)))), ((cell_far (p := ⟨ji, _, none⟩) js.out _).trans (((cell_far (p := ⟨ji, _, none⟩) js.out _).trans (hHeld.2.1)))), ((cell_far (p := ⟨ji, _, none⟩) jo.out _).trans (((cell_far (p := ⟨ji, _, none⟩) jo.out _).trans (hHeld.2.2.1)))), ((cell_far (p := ⟨ji, _, none⟩) jo.out _).trans (((cell_far (p := ⟨ji, _, none⟩) jo.out _).trans (hHeld.2.2.2))))⟩ (fun hHeld => ?_)
     clear hK K
     refine one_ (i := 3) (N := none) #[true, true, true, true, false] rfl rfl (by kernel_rfl) (by decide) (fun K hK => ?_)
     have Xv : zU.cell? ⟨jj, 0, none⟩ = some (.bool false) := (blk_cell jf.out 0).trans rfl
     have hfs83 := blk_frozen jf.out 0
     have hns83_0 := j8.out
     have hns83_1 := qa.out
     have hns83_2 := jR.out
     have hns83_4 := jt.out
     have hns83_5 := jp.out
     have hms83_0 := j9.out
     have hms83_1 := qb.out
     have hms83_2 := jS.out
     have hms83_4 := jz.out
     have hms83_5 := jx.out
     have Xw : zU.cell? ⟨jj, 1, none⟩ = some (.slice none 0 0) := (blk_cell jf.out 1).trans rfl
     have hfs84 := blk_frozen jf.out 1
     have hns84_0 := j8.out
     have hns84_1 := qa.out
     have hns84_2 := jR.out
     have hns84_4 := jt.out
     have hns84_5 := jp.out
     have hms84_0 := j9.out
     have hms84_1 := qb.out
     have hms84_2 := jS.out
     have hms84_4 := jz.out
     have hms84_5 := jx.out
     refine skip_ (w1 := ?_) (by rfl) rfl ?_ ?_
     rotate_left
     ·
      go_simp
      rfl
     refine hK.out _ _ ⟨((cell_far (p := ⟨jj, _, none⟩) jt.out _).trans (((cell_far (p := ⟨jj, _, none⟩) jt.out _).trans (hHeld.1)))), ((cell_far (p := ⟨jj, _, none⟩) jt.out _).trans (((cell_far (p := ⟨jj, _, none⟩) jt.out _).trans (hHeld.2.1)))), ((cell_far (p := ⟨jj, _, none⟩) jp.out _).trans (((cell_far (p := ⟨jj, _, none⟩) jp.out _).trans (hHeld.2.2.1)))), ((cell_far (p := ⟨jj, _, none⟩) jp.out _).trans (((cell_far (p := ⟨jj, _, none⟩) jp.out _).trans (hHeld.2.2.2))))⟩ (fun hHeld => ?_)
     clear hK K
     refine pure_ (i := 4) (N := some 6) (v := ?_) (a' := ?_) #[true, true, true, true, true] rfl rfl (by kernel_rfl) (fun _ _ _ h => h) (Or.inl ⟨by rfl, ?_⟩) ?_ ?_
     rotate_left
     ·
      intro w'
      go_simp
      with_reducible rfl
     rotate_left
     ·
      simp only [Act.put, sI_, s0_, s1_, i64_w, i32_w]
      rfl
     refine done_ (by kernel_rfl) ?_
     try go_wp2
     refine bodyPost_ret (results_list (rs := [.cell 4 25, .cell 5 25, .tmp 6]) rfl (by simp) (.cell ji 25 #[.bool ql, .slice qg qc.length qh] (0, 0) _ rfl (by refine blk_far ?_ jR.out _; refine blk_far ?_ jR.out _; refine blk_put (cs := #[.bool ql, .slice none 0 0]) ?_ 1 _ rfl; refine blk_put (cs := #[.bool false, .slice none 0 0]) ?_ 0 _ rfl; exact jd.out) Try.underlying25 rfl (by kernel_rfl) (.cell jj 25 #[.bool qm, .slice qi qd.length qj] (0, 0) _ rfl (by refine blk_put (cs := #[.bool qm, .slice none 0 0]) ?_ 1 _ rfl; refine blk_put (cs := #[.bool false, .slice none 0 0]) ?_ 0 _ rfl; refine blk_far ?_ jS.out _; refine blk_far ?_ jS.out _; exact jf.out) Try.underlying25 rfl (by kernel_rfl) (.tmp .nil)))) rfl ?_
     exact ⟨_, _, by rfl, by exact Kd.R_mono (Kd.R_far (p := ⟨jj, 1, none⟩) (Kd.R_far (p := ⟨jj, 0, none⟩) (Kd.R_far (p := ⟨ji, 1, none⟩) (Kd.R_far (p := ⟨ji, 0, none⟩) (Kd.R_types (Kd.R_types qz.out jd.out (by decide)) jf.out (by decide)) (fun _ hk => hk.1.2) (.bool ql)) (fun _ hk => hk.1.2) (.slice qg qc.length qh)) (fun _ hk => hk.2) (.bool qm)) (fun _ hk => hk.2) (.slice qi qd.length qj)) (fun _ hk => hk.1.1.2.2.2.2), by exact Kd.R_mono (Kd.R_far (p := ⟨jj, 1, none⟩) (Kd.R_far (p := ⟨jj, 0, none⟩) (Kd.R_far (p := ⟨ji, 1, none⟩) (Kd.R_far (p := ⟨ji, 0, none⟩) (Kd.R_types (Kd.R_types qC.out jd.out (by decide)) jf.out (by decide)) (fun _ hk => hk.1.2) (.bool ql)) (fun _ hk => hk.1.2) (.slice qg qc.length qh)) (fun _ hk => hk.2) (.bool qm)) (fun _ hk => hk.2) (.slice qi qd.length qj)) (fun _ hk => hk.1.1.2.2.2.2), by repeat ((with_reducible first | exact HB.out | refine below_set ?_ qR.out | refine below_set ?_ qS.out))⟩
    ·
     replace zT := Bool.eq_false_iff.mpr zT
     subst zT
     rw [if_neg (show ¬ (false = true) by decide)] at H
     simp only [Option.some.injEq, Prod.mk.injEq] at H
     obtain ⟨rfl, rfl, rfl, rfl, rfl⟩ := H
     try go_wp2
     replace jI := am (Kd.R_drew jI.out)
     replace jJ := am (Kd.R_drew jJ.out)
     replace jb := am (blk_drew jb.out)
     replace ja := am (blk_drew ja.out)
     replace jd := am (blk_drew jd.out)
     replace jf := am (blk_drew jf.out)
     replace jn := am (blk_drew jn.out)
     replace jm := am (blk_drew jm.out)
     replace HB := am (below_drew1 HB.out)
     refine start_ (n := 5) (S := fun w' => w'.cell? ⟨je, 0, none⟩ = some (.bool qe) ∧ w'.cell? ⟨je, 1, none⟩ = some (.slice qr jW.length qs) ∧ w'.cell? ⟨jc, 0, none⟩ = some (.bool qo) ∧ w'.cell? ⟨jc, 1, none⟩ = some (.slice qt jZ.length qu)) (ds := []) #[false, false, false, false, false] (by kernel_rfl) rfl rfl ⟨(blk_cell jn.out 0).trans rfl, (blk_cell jn.out 1).trans rfl, (blk_cell jm.out 0).trans rfl, (blk_cell jm.out 1).trans rfl⟩ (fun hHeld => ?_)
     generalize wc.drew = zV at jI jJ jb ja jd jf jn jm HB hHeld ⊢
     refine take_ (i := 0) (N := some 55) (v := ?_) (a' := ?_) #[true, false, false, false, false] rfl rfl (by kernel_rfl) (fun _ _ _ h => h) (Or.inl ⟨by rfl, ?_⟩) hHeld ?_ ?_
     rotate_left
     ·
      rintro w' ⟨s0, s1, s2, s3⟩
      go_simp
      with_reducible rfl
     rotate_left
     ·
      simp only [Act.put, sI_, s0_, s1_, i64_w, i32_w]
      rfl
     refine take_ (i := 1) (N := some 56) (v := ?_) (a' := ?_) #[true, true, false, false, false] rfl rfl (by kernel_rfl) (fun _ _ _ h => h) (Or.inl ⟨by rfl, ?_⟩) hHeld ?_ ?_
     rotate_left
     ·
      rintro w' ⟨s0, s1, s2, s3⟩
      go_simp
      with_reducible rfl
     rotate_left
     ·
      simp only [Act.put, sI_, s0_, s1_, i64_w, i32_w]
      rfl
     refine one_ (i := 2) (N := none) #[true, true, true, false, false] rfl rfl (by kernel_rfl) (by decide) (fun K hK => ?_)
     have Xx : zV.cell? ⟨ji, 0, none⟩ = some (.bool false) := (blk_cell jd.out 0).trans rfl
     have hfs86 := blk_frozen jd.out 0
     have hns86_0 := j4.out
     have hns86_1 := j6.out
     have hns86_3 := jS.out
     have hns86_4 := js.out
     have hns86_5 := jo.out
     have hms86_0 := j5.out
     have hms86_1 := j7.out
     have hms86_3 := jR.out
     have hms86_4 := jy.out
     have hms86_5 := jw.out
     have Xy : zV.cell? ⟨ji, 1, none⟩ = some (.slice none 0 0) := (blk_cell jd.out 1).trans rfl
     have hfs87 := blk_frozen jd.out 1
     have hns87_0 := j4.out
     have hns87_1 := j6.out
     have hns87_3 := jS.out
     have hns87_4 := js.out
     have hns87_5 := jo.out
     have hms87_0 := j5.out
     have hms87_1 := j7.out
     have hms87_3 := jR.out
     have hms87_4 := jy.out
     have hms87_5 := jw.out
     refine skip_ (w1 := ?_) (by rfl) rfl ?_ ?_
     rotate_left
     ·
      go_simp
      rfl
     refine hK.out _ _ ⟨((cell_far (p := ⟨ji, _, none⟩) js.out _).trans (((cell_far (p := ⟨ji, _, none⟩) js.out _).trans (hHeld.1)))), ((cell_far (p := ⟨ji, _, none⟩) js.out _).trans (((cell_far (p := ⟨ji, _, none⟩) js.out _).trans (hHeld.2.1)))), ((cell_far (p := ⟨ji, _, none⟩) jo.out _).trans (((cell_far (p := ⟨ji, _, none⟩) jo.out _).trans (hHeld.2.2.1)))), ((cell_far (p := ⟨ji, _, none⟩) jo.out _).trans (((cell_far (p := ⟨ji, _, none⟩) jo.out _).trans (hHeld.2.2.2))))⟩ (fun hHeld => ?_)
     clear hK K
     refine one_ (i := 3) (N := none) #[true, true, true, true, false] rfl rfl (by kernel_rfl) (by decide) (fun K hK => ?_)
     have Xz : zV.cell? ⟨jj, 0, none⟩ = some (.bool false) := (blk_cell jf.out 0).trans rfl
     have hfs88 := blk_frozen jf.out 0
     have hns88_0 := j8.out
     have hns88_1 := qa.out
     have hns88_2 := jR.out
     have hns88_4 := jt.out
     have hns88_5 := jp.out
     have hms88_0 := j9.out
     have hms88_1 := qb.out
     have hms88_2 := jS.out
     have hms88_4 := jz.out
     have hms88_5 := jx.out
     have XA : zV.cell? ⟨jj, 1, none⟩ = some (.slice none 0 0) := (blk_cell jf.out 1).trans rfl
     have hfs89 := blk_frozen jf.out 1
     have hns89_0 := j8.out
     have hns89_1 := qa.out
     have hns89_2 := jR.out
     have hns89_4 := jt.out
     have hns89_5 := jp.out
     have hms89_0 := j9.out
     have hms89_1 := qb.out
     have hms89_2 := jS.out
     have hms89_4 := jz.out
     have hms89_5 := jx.out
     refine skip_ (w1 := ?_) (by rfl) rfl ?_ ?_
     rotate_left
     ·
      go_simp
      rfl
     refine hK.out _ _ ⟨((cell_far (p := ⟨jj, _, none⟩) jt.out _).trans (((cell_far (p := ⟨jj, _, none⟩) jt.out _).trans (hHeld.1)))), ((cell_far (p := ⟨jj, _, none⟩) jt.out _).trans (((cell_far (p := ⟨jj, _, none⟩) jt.out _).trans (hHeld.2.1)))), ((cell_far (p := ⟨jj, _, none⟩) jp.out _).trans (((cell_far (p := ⟨jj, _, none⟩) jp.out _).trans (hHeld.2.2.1)))), ((cell_far (p := ⟨jj, _, none⟩) jp.out _).trans (((cell_far (p := ⟨jj, _, none⟩) jp.out _).trans (hHeld.2.2.2))))⟩ (fun hHeld => ?_)
     clear hK K
     refine pure_ (i := 4) (N := some 6) (v := ?_) (a' := ?_) #[true, true, true, true, true] rfl rfl (by kernel_rfl) (fun _ _ _ h => h) (Or.inl ⟨by rfl, ?_⟩) ?_ ?_
     rotate_left
     ·
      intro w'
      go_simp
      with_reducible rfl
     rotate_left
     ·
      simp only [Act.put, sI_, s0_, s1_, i64_w, i32_w]
      rfl
     refine done_ (by kernel_rfl) ?_
     try go_wp2
     refine bodyPost_ret (results_list (rs := [.cell 4 25, .cell 5 25, .tmp 6]) rfl (by simp) (.cell ji 25 #[.bool qe, .slice qr jW.length qs] (0, 0) _ rfl (by refine blk_far ?_ jR.out _; refine blk_far ?_ jR.out _; refine blk_put (cs := #[.bool qe, .slice none 0 0]) ?_ 1 _ rfl; refine blk_put (cs := #[.bool false, .slice none 0 0]) ?_ 0 _ rfl; exact jd.out) Try.underlying25 rfl (by kernel_rfl) (.cell jj 25 #[.bool qo, .slice qt jZ.length qu] (0, 0) _ rfl (by refine blk_put (cs := #[.bool qo, .slice none 0 0]) ?_ 1 _ rfl; refine blk_put (cs := #[.bool false, .slice none 0 0]) ?_ 0 _ rfl; refine blk_far ?_ jS.out _; refine blk_far ?_ jS.out _; exact jf.out) Try.underlying25 rfl (by kernel_rfl) (.tmp .nil)))) rfl ?_
     exact ⟨_, _, by rfl, by exact Kd.R_mono (Kd.R_far (p := ⟨jj, 1, none⟩) (Kd.R_far (p := ⟨jj, 0, none⟩) (Kd.R_far (p := ⟨ji, 1, none⟩) (Kd.R_far (p := ⟨ji, 0, none⟩) (Kd.R_types (Kd.R_types jI.out jd.out (by decide)) jf.out (by decide)) (fun _ hk => hk.1.2) (.bool qe)) (fun _ hk => hk.1.2) (.slice qr jW.length qs)) (fun _ hk => hk.2) (.bool qo)) (fun _ hk => hk.2) (.slice qt jZ.length qu)) (fun _ hk => hk.1.1), by exact Kd.R_mono (Kd.R_far (p := ⟨jj, 1, none⟩) (Kd.R_far (p := ⟨jj, 0, none⟩) (Kd.R_far (p := ⟨ji, 1, none⟩) (Kd.R_far (p := ⟨ji, 0, none⟩) (Kd.R_types (Kd.R_types jJ.out jd.out (by decide)) jf.out (by decide)) (fun _ hk => hk.1.2) (.bool qe)) (fun _ hk => hk.1.2) (.slice qr jW.length qs)) (fun _ hk => hk.2) (.bool qo)) (fun _ hk => hk.2) (.slice qt jZ.length qu)) (fun _ hk => hk.1.1), by repeat ((with_reducible first | exact HB.out | refine below_set ?_ qR.out | refine below_set ?_ qS.out))⟩
 ·
  rw [if_neg c4] at H
  have c4b0 : (qI == 0) = false := beq_eq_false_iff_ne.mpr c4
  have c4b1 : (qI != 0) = true := bne_iff_ne.mpr c4
  simp only [Option.some.injEq, Prod.mk.injEq] at H
  obtain ⟨rfl, rfl, rfl, rfl, rfl⟩ := H
  go_enter Try.func12, Try.ntmps12
  go_wp2_with (first | ((with_reducible refine gate_dst (N := 2) rfl ?_); (try (refine gate_guard (by rfl) ?_; dsimp only)); refine box_event ?hg (N := 2) ?hd (cs := #[.bool a0_0, .slice jT l0_1.length jU]) (t := 25) ?hr ?_; (case hd => rfl); (case hg => rfl); (case hr => (go_simp; done)); intro jh hg XH hbox hb; have jb := am hbox; have q7 := am (gel hg HB.out); have q8 := am (gel hg HB.out); replace HB := am (below_step HB.out hb); clear hb hbox hg) | ((with_reducible refine gate_dst (N := 3) rfl ?_); (try (refine gate_guard (by rfl) ?_; dsimp only)); refine box_event ?hg (N := 3) ?hd (cs := #[.bool a1_0, .slice jP l1_1.length jQ]) (t := 25) ?hr ?_; (case hd => rfl); (case hg => rfl); (case hr => (go_simp; done)); intro jg hg XI hbox hb; have ja := am hbox; have q9 := am (gel hg HB.out); have za := am (gel hg HB.out); replace HB := am (below_step HB.out hb); have qv := am (nel hg jb.out); have qw := am (ner hg jb.out); replace jb := am (blk_below jb.out hb); clear hb hbox hg) | ((with_reducible refine gate_dst (N := 4) rfl ?_); (try (refine gate_guard (by rfl) ?_; dsimp only)); refine box_event ?hg (N := 4) ?hd (cs := #[.bool false, .slice none 0 0]) (t := 25) ?hr ?_; (case hd => rfl); (case hg => rfl); (case hr => (go_simp; done)); intro ji hg XJ hbox hb; have jd := am hbox; have zb := am (gel hg HB.out); have qR := am (gel hg HB.out); replace HB := am (below_step HB.out hb); have j4 := am (nel hg jb.out); have j5 := am (ner hg jb.out); replace jb := am (blk_below jb.out hb); have j6 := am (nel hg ja.out); have j7 := am (ner hg ja.out); replace ja := am (blk_below ja.out hb); clear hb hbox hg) | ((with_reducible refine gate_dst (N := 5) rfl ?_); (try (refine gate_guard (by rfl) ?_; dsimp only)); refine box_event ?hg (N := 5) ?hd (cs := #[.bool false, .slice none 0 0]) (t := 25) ?hr ?_; (case hd => rfl); (case hg => rfl); (case hr => (go_simp; done)); intro jj hg zW hbox hb; have jf := am hbox; have zc := am (gel hg HB.out); have qS := am (gel hg HB.out); replace HB := am (below_step HB.out hb); have j8 := am (nel hg jb.out); have j9 := am (ner hg jb.out); replace jb := am (blk_below jb.out hb); have qa := am (nel hg ja.out); have qb := am (ner hg ja.out); replace ja := am (blk_below ja.out hb); have jR := am (nel hg jd.out); have jS := am (ner hg jd.out); replace jd := am (blk_below jd.out hb); clear hb hbox hg; have uZ := qv.out; have u0 := qw.out; have u1 := j4.out; have u2 := j5.out; have u3 := j8.out; have u4 := j9.out; have zX : zW.cell? ⟨jh, 0, none⟩ = some (.bool a0_0) := (blk_cell jb.out 0).trans rfl; have zY : zW.cell? ⟨jh, 1, none⟩ = some (.slice jT l0_1.length jU) := (blk_cell jb.out 1).trans rfl; have zZ := blk_frozen jb.out 0; have z0 := blk_frozen jb.out 1; have u5 := j6.out; have u6 := j7.out; have u7 := qa.out; have u8 := qb.out; have ze : zW.cell? ⟨jg, 0, none⟩ = some (.bool a1_0) := (blk_cell ja.out 0).trans rfl; have zf : zW.cell? ⟨jg, 1, none⟩ = some (.slice jP l1_1.length jQ) := (blk_cell ja.out 1).trans rfl; have zg := blk_frozen ja.out 0; have zh := blk_frozen ja.out 1) | ((with_reducible refine gate_callee (f := 46) rfl ?_); refine goesL_ (some 17) rfl rfl Try.func46 (by kernel_rfl) rfl #[.slice jT l0_1.length jU, .slice jP l1_1.length jQ] rfl (by (try simp only [List.map_toArray, List.map_cons, List.map_nil]); rfl) ?_; (with_reducible refine (nat_DivMod.calls k _ _ l0_1 _ _ l1_1 jG jH qI _ ?side1 ?side2 ?side3 ?side4 A3.out).mono ?_); (case side1 => repeat (exact (Kd.C_below q3.out HB.out))); (case side2 => exact q4.out); (case side3 => repeat (exact (Kd.C_below qV.out HB.out))); (case side4 => exact qW.out); rintro e q2 ⟨z2, z3, rfl, ho0, ho1, hb⟩; refine ⟨_, rfl, ?_⟩; have jk := am (Kd.R_lower ho0 (below_size HB.out)); have jl := am (Kd.R_lower ho1 (below_size HB.out)); replace jb := am (blk_below jb.out hb); replace ja := am (blk_below ja.out hb); replace jd := am (blk_below jd.out hb); replace jf := am (blk_below jf.out hb); replace HB := am (below_step HB.out hb); (try clear hb); (try clear ho0); (try clear ho1); have z6 := jR.out; have z7 := jS.out; have zi : q2.cell? ⟨ji, 0, none⟩ = some (.bool false) := (blk_cell jd.out 0).trans rfl; have zj : q2.cell? ⟨ji, 1, none⟩ = some (.slice none 0 0) := (blk_cell jd.out 1).trans rfl; have zk := blk_frozen jd.out 0; have zl := blk_frozen jd.out 1; have zm : q2.cell? ⟨jj, 0, none⟩ = some (.bool false) := (blk_cell jf.out 0).trans rfl; have zn : q2.cell? ⟨jj, 1, none⟩ = some (.slice none 0 0) := (blk_cell jf.out 1).trans rfl; have zo := blk_frozen jf.out 0; have zp := blk_frozen jf.out 1))
  refine bodyPost_ret (results_list (rs := [.cell 4 25, .cell 5 25, .tmp 6]) rfl (by simp) (.cell ji 25 #[.bool false, .slice none 0 0] (0, 0) _ rfl (by refine blk_far ?_ jR.out _; refine blk_far ?_ jR.out _; refine blk_put (cs := #[.bool false, .slice none 0 0]) ?_ 1 _ rfl; refine blk_put (cs := #[.bool false, .slice none 0 0]) ?_ 0 _ rfl; exact jd.out) Try.underlying25 rfl (by kernel_rfl) (.cell jj 25 #[.bool false, .slice none 0 0] (0, 0) _ rfl (by refine blk_put (cs := #[.bool false, .slice none 0 0]) ?_ 1 _ rfl; refine blk_put (cs := #[.bool false, .slice none 0 0]) ?_ 0 _ rfl; refine blk_far ?_ jS.out _; refine blk_far ?_ jS.out _; exact jf.out) Try.underlying25 rfl (by kernel_rfl) (.tmp .nil)))) rfl ?_
  exact ⟨_, _, by rfl, by exact Kd.R_nil _ _ _ _ _, by exact Kd.R_nil _ _ _ _ _, by repeat ((with_reducible first | exact HB.out | refine below_set ?_ qR.out | refine below_set ?_ qS.out))⟩

end Go.Proofs.Ytmfmojldebhboaa.ZWhole
