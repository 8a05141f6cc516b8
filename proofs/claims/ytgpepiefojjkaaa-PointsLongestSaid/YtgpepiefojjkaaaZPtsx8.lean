-- printed by zprint.py, a program of this session's
import Derived.Test.YtgpepiefojjkaaaZPtsx0
import Derived.Test.YtgpepiefojjkaaaZPtsx4
import Derived.Test.YtgpepiefojjkaaaZPtsx7
namespace Go.Proofs.Ytgpepiefojjkaaa.ZPts
open Go.RowKit Go.Proofs.YtgpepiefojjkaaaW.PrintWords Go.Proofs.YtgpepiefojjkaaaW.PrintLast Go.Proofs.YtgpepiefojjkaaaW.PrintMore
set_option linter.unusedVariables false
set_option linter.unusedSimpArgs false

/-! ### zelligelaw23_PointsLongest: function 4 -/
mutual
def zelligelaw23_PointsLongest.j0 : Nat → ByteArray → Option (Bool)
  | 0, _ => none
  | k + 1, x0 => (points_Parse.f k x0).bind fun bt243 => (if bt243.2.2.2 = 0 then ((zelligelaw23_lives.f k).bind fun t249 => (some t249)) else (if 0 ≤ bt243.2.2.1 then (if bt243.2.2.1 ≤ (x0.size : Int) then ((points_Parse.f k (x0.extract 0 (bt243.2.2.1 : Int).toNat)).bind fun bt250 => (if bt243.2.2.1 < 0 then (zelligelaw23_PointsLongest.j1 k x0 bt243.2.2.1 true) else (if bt243.2.2.1 > (x0.size : Int) then (zelligelaw23_PointsLongest.j1 k x0 bt243.2.2.1 true) else (if bt250.2.2.2 = 0 then (if bt243.2.2.1 = (x0.size : Int) then (zelligelaw23_PointsLongest.j1 k x0 bt243.2.2.1 true) else (zelligelaw23_PointsLongest.j1 k x0 bt243.2.2.1 false)) else (zelligelaw23_PointsLongest.j1 k x0 bt243.2.2.1 (bt250.2.2.1 != bt243.2.2.1)))))) else (none)) else (none)))
def zelligelaw23_PointsLongest.j1 : Nat → ByteArray → Int → Bool → Option (Bool)
  | 0, _, _, _ => none
  | k + 1, x0, x5, x65 => if x65 = true then (some false) else (if x5 = (x0.size : Int) then ((zelligelaw23_lives.f k).bind fun t256 => (some t256)) else (if 0 ≤ (wrap64 (x5 + 1)) then (if (wrap64 (x5 + 1)) ≤ (x0.size : Int) then ((points_Parse.f k (x0.extract 0 ((wrap64 (x5 + 1)) : Int).toNat)).bind fun bt257 => (if bt257.2.2.1 = x5 then (if bt257.2.2.2 = 17 then ((zelligelaw23_lives.f k).bind fun t263 => (some t263)) else (some false)) else (some false))) else (none)) else (none)))
end
def zelligelaw23_PointsLongest.f (k : Nat) (a0 : ByteArray) : Option (Bool) := if (a0.size : Int) > 400 then (if 0 ≤ 400 then (if 400 ≤ (a0.size : Int) then (zelligelaw23_PointsLongest.j0 k (a0.extract 0 400)) else (none)) else (none)) else (zelligelaw23_PointsLongest.j0 k a0)
theorem zelligelaw23_PointsLongest.mono_l : ∀ k, (∀ y0, LeO (zelligelaw23_PointsLongest.j0 k y0) (zelligelaw23_PointsLongest.j0 (k + 1) y0)) ∧ (∀ y0 y1 y2, LeO (zelligelaw23_PointsLongest.j1 k y0 y1 y2) (zelligelaw23_PointsLongest.j1 (k + 1) y0 y1 y2))
  | 0 => ⟨fun _ r h => by simp [zelligelaw23_PointsLongest.j0] at h, fun _ _ _ r h => by simp [zelligelaw23_PointsLongest.j1] at h⟩
  | k + 1 => by
    obtain ⟨ih0, ih1⟩ := zelligelaw23_PointsLongest.mono_l k
    refine ⟨?_, ?_⟩
    · intro y0
      unfold zelligelaw23_PointsLongest.j0
      repeat' first
      | (with_reducible exact ih0 _)
      | (with_reducible exact ih1 _ _ _)
      | (with_reducible exact points_Parse.mono _ _)
      | (with_reducible exact zelligelaw23_lives.mono _)
      | (with_reducible exact LeO.refl _)
      | (with_reducible exact LeO.none _)
      | (with_reducible refine LeO.ite ?_ ?_)
      | (with_reducible refine LeO.bind ?_ (fun _ => ?_))
      | exact ih0 _
      | exact ih1 _ _ _
      | exact points_Parse.mono _ _
      | exact zelligelaw23_lives.mono _
      | exact LeO.none _
      | refine LeO.ite ?_ ?_
      | refine LeO.bind ?_ (fun _ => ?_)
    · intro y0 y1 y2
      unfold zelligelaw23_PointsLongest.j1
      repeat' first
      | (with_reducible exact ih0 _)
      | (with_reducible exact ih1 _ _ _)
      | (with_reducible exact points_Parse.mono _ _)
      | (with_reducible exact zelligelaw23_lives.mono _)
      | (with_reducible exact LeO.refl _)
      | (with_reducible exact LeO.none _)
      | (with_reducible refine LeO.ite ?_ ?_)
      | (with_reducible refine LeO.bind ?_ (fun _ => ?_))
      | exact ih0 _
      | exact ih1 _ _ _
      | exact points_Parse.mono _ _
      | exact zelligelaw23_lives.mono _
      | exact LeO.none _
      | refine LeO.ite ?_ ?_
      | refine LeO.bind ?_ (fun _ => ?_)
theorem zelligelaw23_PointsLongest.mono : ∀ a0 k, LeO (zelligelaw23_PointsLongest.f k a0) (zelligelaw23_PointsLongest.f (k + 1) a0) := by
  intro a0 k
  obtain ⟨ih0, ih1⟩ := zelligelaw23_PointsLongest.mono_l k
  unfold zelligelaw23_PointsLongest.f
  repeat' first
      | (with_reducible exact ih0 _)
      | (with_reducible exact ih1 _ _ _)
      | (with_reducible exact points_Parse.mono _ _)
      | (with_reducible exact zelligelaw23_lives.mono _)
      | (with_reducible exact LeO.refl _)
      | (with_reducible exact LeO.none _)
      | (with_reducible refine LeO.ite ?_ ?_)
      | (with_reducible refine LeO.bind ?_ (fun _ => ?_))
      | exact ih0 _
      | exact ih1 _ _ _
      | exact points_Parse.mono _ _
      | exact zelligelaw23_lives.mono _
      | exact LeO.none _
      | refine LeO.ite ?_ ?_
      | refine LeO.bind ?_ (fun _ => ?_)
set_option maxHeartbeats 8000000 in
set_option maxRecDepth 100000 in
theorem zelligelaw23_PointsLongest.calls (k : Nat) (a0 : ByteArray) (r : Bool) (w : World) (h : zelligelaw23_PointsLongest.f k a0 = some r) (hT : Aside0 (r = true)) :
    Calls Try.prog 4 #[.string a0] w fun e w' => e = .returned (.bool r) ∧ Below w.heap.size w w' := by
  have HB := Aside0.mk (Below.refl w.heap.size w)
  have H : (if (a0.size : Int) > 400 then (if 0 ≤ 400 then (if 400 ≤ (a0.size : Int) then (zelligelaw23_PointsLongest.j0 k (a0.extract 0 400)) else (none)) else (none)) else (zelligelaw23_PointsLongest.j0 k a0)) = some r := h
  clear h
  have HC2 := Aside0.mk H
  clear H
  go_enter Try.func4, Try.ntmps4
  go_upto_if 17 with (fail)
  go_cut [0] (fun v0 wc => ∃ (kq : Nat) (x0_1 : ByteArray), v0 = .string x0_1 ∧ Aside0 (zelligelaw23_PointsLongest.j0 kq x0_1 = some r) ∧ Aside0 (kq ≤ k) ∧ Aside0 (Below w.heap.size w wc))
  case first =>
    have H := HC2.out
    clear HC2
    by_cases c3 : (a0.size : Int) > 400
    · rw [if_pos c3] at H
      have c3b0 : decide (400 < (a0.size : Int)) = true := decide_eq_true c3
      have c3b1 : decide (400 < a0.size) = true := decide_eq_true (by omega)
      clear c3
      (first | rw [c3b0] | (simp only [i64_w, i32_w]; rw [c3b0]) | rw [c3b1] | skip)
      by_cases c4 : 0 ≤ 400
      · rw [if_pos c4] at H
        have c4b0 := eq_true c4
        have c4b1 : decide (0 ≤ 400) = true := decide_eq_true c4
        clear c4
        by_cases c5 : 400 ≤ (a0.size : Int)
        · rw [if_pos c5] at H
          have c5b0 := eq_true c5
          have c5b1 : decide (400 ≤ (a0.size : Int)) = true := decide_eq_true c5
          clear c5
          have H' := Aside0.mk H
          clear H
          go_wp2
          go_meet
          case rel => exact ⟨_, (a0.extract 0 400), (by first | rfl | (simp; done) | (simp [*]; done)), H', ⟨by first | omega | exact Nat.le_refl _⟩, ⟨by repeat (first | (with_reducible first | exact HB.out | apply below_alloc | apply pw_below_drewN | apply below_drew1) | exact HB.out)⟩⟩
        · rw [if_neg c5] at H
          exact absurd H (by simp)
      · rw [if_neg c4] at H
        exact absurd H (by simp)
    · rw [if_neg c3] at H
      have c3b0 : decide (400 < (a0.size : Int)) = false := decide_eq_false c3
      have c3b1 : decide (400 < a0.size) = false := decide_eq_false (by omega)
      clear c3
      (first | rw [c3b0] | (simp only [i64_w, i32_w]; rw [c3b0]) | rw [c3b1] | skip)
      have H' := Aside0.mk H
      clear H
      go_wp2
      go_meet
      case rel => exact ⟨_, (a0), (by first | rfl | (simp; done) | (simp [*]; done)), H', ⟨by first | omega | exact Nat.le_refl _⟩, ⟨by repeat (first | (with_reducible first | exact HB.out | apply below_alloc | apply pw_below_drewN | apply below_drew1) | exact HB.out)⟩⟩
  case rest =>
    clear HC2
    try clear p2
    try clear c3
    try clear c3b0
    try clear c3b1
    try clear c4
    try clear c4b0
    try clear c4b1
    try clear c5
    try clear c5b0
    try clear c5b1
    obtain ⟨kq, x0_1, rfl, HA, HJ1, HB⟩ := hcut
    cases kq with
    | zero => exact absurd HA.out (by simp [zelligelaw23_PointsLongest.j0])
    | succ kj1 =>
      have H := HA.out
      clear HA
      simp only [zelligelaw23_PointsLongest.j0] at H
      obtain ⟨⟨t243, t244, t245, t246⟩, A6, H⟩ := bindE H
      replace H : (if t246 = 0 then ((zelligelaw23_lives.f kj1).bind fun t249 => (some t249)) else (if 0 ≤ t245 then (if t245 ≤ (x0_1.size : Int) then ((points_Parse.f kj1 (x0_1.extract 0 (t245 : Int).toNat)).bind fun bt250 => (if t245 < 0 then (zelligelaw23_PointsLongest.j1 kj1 x0_1 t245 true) else (if t245 > (x0_1.size : Int) then (zelligelaw23_PointsLongest.j1 kj1 x0_1 t245 true) else (if bt250.2.2.2 = 0 then (if t245 = (x0_1.size : Int) then (zelligelaw23_PointsLongest.j1 kj1 x0_1 t245 true) else (zelligelaw23_PointsLongest.j1 kj1 x0_1 t245 false)) else (zelligelaw23_PointsLongest.j1 kj1 x0_1 t245 (bt250.2.2.1 != t245)))))) else (none)) else (none))) = some r := H
      by_cases c7 : t246 = 0
      · rw [if_pos c7] at H
        have c7b0 : (t246 == 0) = true := beq_iff_eq.mpr c7
        have c7b1 : (t246 != 0) = false := bne_eq_false_iff_eq.mpr c7
        clear c7
        obtain ⟨t249, A8, H⟩ := bindE H
        obtain rfl := Option.some.inj H
        go_wp2_with (first | ((with_reducible refine gate_callee (f := 7) rfl ?_); refine goesL_ (some 22) rfl rfl Try.func7 (by kernel_rfl) rfl #[.string x0_1] rfl (by (try simp only [List.map_toArray, List.map_cons, List.map_nil]); first | done | rfl | (simp only [List.length_drop, List.length_take]; rfl)) ?_; (with_reducible refine (points_Parse.calls kj1 x0_1 t243 t244 t245 t246 _ A6.out).mono ?_); rintro e w9 ⟨v247, rfl, ho0, hb⟩; refine ⟨_, rfl, ?_⟩; have n0_ := Aside0.mk (Kd.R_lower ho0 (below_size (by repeat (first | (with_reducible first | exact HB.out | apply below_alloc | apply pw_below_drewN | apply below_drew1) | exact HB.out)))); have n1_ := Aside0.mk (below_step (by repeat (first | (with_reducible first | exact HB.out | apply below_alloc | apply pw_below_drewN | apply below_drew1) | exact HB.out)) hb); clear HB; have HO248 := n0_; have HB := n1_; clear n0_ n1_; (try clear hb); (try clear hb2); (try clear hk); (try clear hi); (try clear ho0)) | ((with_reducible refine gate_callee (f := 10) rfl ?_); refine goesL_ (some 29) rfl rfl Try.func10 (by kernel_rfl) rfl #[] rfl (by (try simp only [List.map_toArray, List.map_cons, List.map_nil]); first | done | rfl | (simp only [List.length_drop, List.length_take]; rfl)) ?_; (with_reducible refine (zelligelaw23_lives.calls kj1  t249 _ A8.out).mono ?_); rintro e w10 ⟨rfl, hb⟩; refine ⟨_, rfl, ?_⟩; have n0_ := Aside0.mk (Kd.R_below (by (with_reducible repeat (first | apply Kd.R_alloc | apply Kd.R_drewN | apply Kd.R_drew)); exact HO248.out) hb); have n1_ := Aside0.mk (below_step (by repeat (first | (with_reducible first | exact HB.out | apply below_alloc | apply pw_below_drewN | apply below_drew1) | exact HB.out)) hb); clear HO248; clear HB; have HO248 := n0_; have HB := n1_; clear n0_ n1_; (try clear hb); (try clear hb2); (try clear hk); (try clear hi)))
        go_ret
        exact ⟨by first | rfl | (simp [errW_none, errW_some] <;> rfl) | (simp [*, errW_none, errW_some] <;> rfl), by repeat (first | (with_reducible first | exact HB.out | apply below_alloc | apply pw_below_drewN | apply below_drew1) | exact HB.out)⟩
      · rw [if_neg c7] at H
        have c7b0 : (t246 == 0) = false := beq_eq_false_iff_ne.mpr c7
        have c7b1 : (t246 != 0) = true := bne_iff_ne.mpr c7
        by_cases c11 : 0 ≤ t245
        · rw [if_pos c11] at H
          have c11b0 := eq_true c11
          have c11b1 : decide (0 ≤ t245) = true := decide_eq_true c11
          clear c11
          by_cases c12 : t245 ≤ (x0_1.size : Int)
          · rw [if_pos c12] at H
            have c12b0 := eq_true c12
            have c12b1 : decide (t245 ≤ (x0_1.size : Int)) = true := decide_eq_true c12
            clear c12
            obtain ⟨⟨t250, t251, t252, t253⟩, A13, H⟩ := bindE H
            replace H : (if t245 < 0 then (zelligelaw23_PointsLongest.j1 kj1 x0_1 t245 true) else (if t245 > (x0_1.size : Int) then (zelligelaw23_PointsLongest.j1 kj1 x0_1 t245 true) else (if t253 = 0 then (if t245 = (x0_1.size : Int) then (zelligelaw23_PointsLongest.j1 kj1 x0_1 t245 true) else (zelligelaw23_PointsLongest.j1 kj1 x0_1 t245 false)) else (zelligelaw23_PointsLongest.j1 kj1 x0_1 t245 (t252 != t245))))) = some r := H
            have HC14 := Aside0.mk H
            clear H
            go_upto_region 7 with (first | ((with_reducible refine gate_callee (f := 7) rfl ?_); refine goesL_ (some 22) rfl rfl Try.func7 (by kernel_rfl) rfl #[.string x0_1] rfl (by (try simp only [List.map_toArray, List.map_cons, List.map_nil]); first | done | rfl | (simp only [List.length_drop, List.length_take]; rfl)) ?_; (with_reducible refine (points_Parse.calls kj1 x0_1 t243 t244 t245 t246 _ A6.out).mono ?_); rintro e w15 ⟨v247, rfl, ho0, hb⟩; refine ⟨_, rfl, ?_⟩; have n0_ := Aside0.mk (Kd.R_lower ho0 (below_size (by repeat (first | (with_reducible first | exact HB.out | apply below_alloc | apply pw_below_drewN | apply below_drew1) | exact HB.out)))); have n1_ := Aside0.mk (below_step (by repeat (first | (with_reducible first | exact HB.out | apply below_alloc | apply pw_below_drewN | apply below_drew1) | exact HB.out)) hb); clear HB; have HO248 := n0_; have HB := n1_; clear n0_ n1_; (try clear hb); (try clear hb2); (try clear hk); (try clear hi); (try clear ho0)) | ((with_reducible refine gate_callee (f := 7) rfl ?_); refine goesL_ (some 34) rfl rfl Try.func7 (by kernel_rfl) rfl #[.string (x0_1.extract 0 (t245 : Int).toNat)] rfl (by (try simp only [List.map_toArray, List.map_cons, List.map_nil]); first | done | rfl | (simp only [List.length_drop, List.length_take]; rfl)) ?_; (with_reducible refine (points_Parse.calls kj1 (x0_1.extract 0 (t245 : Int).toNat) t250 t251 t252 t253 _ A13.out).mono ?_); rintro e w16 ⟨v254, rfl, ho0, hb⟩; refine ⟨_, rfl, ?_⟩; have n0_ := Aside0.mk (Kd.R_elder' (by (with_reducible repeat (first | apply Kd.R_alloc | apply Kd.R_drewN | apply Kd.R_drew)); exact HO248.out) (Kd.R_base ho0) hb); have n1_ := Aside0.mk (Kd.R_lower (Kd.R_new' ho0 (Kd.R_lt (by (with_reducible repeat (first | apply Kd.R_alloc | apply Kd.R_drewN | apply Kd.R_drew)); exact HO248.out))) (below_size (by repeat (first | (with_reducible first | exact HB.out | apply below_alloc | apply pw_below_drewN | apply below_drew1) | exact HB.out)))); have n2_ := Aside0.mk (below_step (by repeat (first | (with_reducible first | exact HB.out | apply below_alloc | apply pw_below_drewN | apply below_drew1) | exact HB.out)) hb); clear HO248; clear HB; have HO248 := n0_; have HO255 := n1_; have HB := n2_; clear n0_ n1_ n2_; (try clear hb); (try clear hb2); (try clear hk); (try clear hi); (try clear ho0)))
            (try simp only [Act.put, List.setIfInBounds_toArray, List.set_cons_zero, List.set_cons_succ])
            go_cut [65] (fun v65 wc => ∃ (kq : Nat) (x65_13 : Bool), v65 = .bool x65_13 ∧ Aside0 (zelligelaw23_PointsLongest.j1 kq x0_1 t245 x65_13 = some r) ∧ Aside0 (kq ≤ kj1) ∧ Aside0 (Below w.heap.size w wc))
            case first =>
              have H := HC14.out
              clear HC14
              by_cases c17 : t245 < 0
              · rw [if_pos c17] at H
                have c17b0 : decide (t245 < 0) = true := decide_eq_true c17
                clear c17
                (first | rw [c17b0] | (simp only [i64_w, i32_w]; rw [c17b0]) | rw [c17b1] | skip)
                have H' := Aside0.mk H
                clear H
                go_wp2
                go_meet
                case rel => exact ⟨_, (true), (by first | rfl | (simp; done) | (simp [*]; done)), H', ⟨by have := HJ1.out; first | omega | exact Nat.le_refl _⟩, ⟨by repeat (first | (with_reducible first | exact HB.out | apply below_alloc | apply pw_below_drewN | apply below_drew1) | exact HB.out)⟩⟩
              · rw [if_neg c17] at H
                have c17b0 : decide (t245 < 0) = false := decide_eq_false c17
                clear c17
                (first | rw [c17b0] | (simp only [i64_w, i32_w]; rw [c17b0]) | rw [c17b1] | skip)
                by_cases c18 : t245 > (x0_1.size : Int)
                · rw [if_pos c18] at H
                  have c18b0 : decide ((x0_1.size : Int) < t245) = true := decide_eq_true c18
                  clear c18
                  have H' := Aside0.mk H
                  clear H
                  go_wp2
                  go_meet
                  case rel => exact ⟨_, (true), (by first | rfl | (simp; done) | (simp [*]; done)), H', ⟨by have := HJ1.out; first | omega | exact Nat.le_refl _⟩, ⟨by repeat (first | (with_reducible first | exact HB.out | apply below_alloc | apply pw_below_drewN | apply below_drew1) | exact HB.out)⟩⟩
                · rw [if_neg c18] at H
                  have c18b0 : decide ((x0_1.size : Int) < t245) = false := decide_eq_false c18
                  clear c18
                  by_cases c19 : t253 = 0
                  · rw [if_pos c19] at H
                    have c19b0 : (t253 == 0) = true := beq_iff_eq.mpr c19
                    have c19b1 : (t253 != 0) = false := bne_eq_false_iff_eq.mpr c19
                    clear c19
                    by_cases c20 : t245 = (x0_1.size : Int)
                    · rw [if_pos c20] at H
                      have c20b0 : (t245 == (x0_1.size : Int)) = true := beq_iff_eq.mpr c20
                      have c20b1 : (t245 != (x0_1.size : Int)) = false := bne_eq_false_iff_eq.mpr c20
                      clear c20
                      have H' := Aside0.mk H
                      clear H
                      go_wp2
                      go_meet
                      case rel => exact ⟨_, (true), (by first | rfl | (simp; done) | (simp [*]; done)), H', ⟨by have := HJ1.out; first | omega | exact Nat.le_refl _⟩, ⟨by repeat (first | (with_reducible first | exact HB.out | apply below_alloc | apply pw_below_drewN | apply below_drew1) | exact HB.out)⟩⟩
                    · rw [if_neg c20] at H
                      have c20b0 : (t245 == (x0_1.size : Int)) = false := beq_eq_false_iff_ne.mpr c20
                      have c20b1 : (t245 != (x0_1.size : Int)) = true := bne_iff_ne.mpr c20
                      have H' := Aside0.mk H
                      clear H
                      go_wp2
                      go_meet
                      case rel => exact ⟨_, (false), (by first | rfl | (simp; done) | (simp [*]; done)), H', ⟨by have := HJ1.out; first | omega | exact Nat.le_refl _⟩, ⟨by repeat (first | (with_reducible first | exact HB.out | apply below_alloc | apply pw_below_drewN | apply below_drew1) | exact HB.out)⟩⟩
                  · rw [if_neg c19] at H
                    have c19b0 : (t253 == 0) = false := beq_eq_false_iff_ne.mpr c19
                    have c19b1 : (t253 != 0) = true := bne_iff_ne.mpr c19
                    have H' := Aside0.mk H
                    clear H
                    go_wp2
                    go_meet
                    case rel => exact ⟨_, ((t252 != t245)), (by first | rfl | (simp; done) | (simp [*]; done)), H', ⟨by have := HJ1.out; first | omega | exact Nat.le_refl _⟩, ⟨by repeat (first | (with_reducible first | exact HB.out | apply below_alloc | apply pw_below_drewN | apply below_drew1) | exact HB.out)⟩⟩
            case rest =>
              clear HC14
              try clear c1
              try clear c2
              try clear p2
              try clear c3
              try clear c3b0
              try clear c3b1
              try clear c4
              try clear c4b0
              try clear c4b1
              try clear c5
              try clear c5b0
              try clear c5b1
              try clear c7
              try clear c7b0
              try clear c7b1
              try clear c10
              try clear c11
              try clear c11b0
              try clear c11b1
              try clear c12
              try clear c12b0
              try clear c12b1
              try clear c17
              try clear c17b0
              try clear c17b1
              try clear c18
              try clear c18b0
              try clear c19
              try clear c19b0
              try clear c19b1
              try clear c20
              try clear c20b0
              try clear c20b1
              try clear p2
              obtain ⟨kq, x65_13, rfl, HA, HJ13, HB⟩ := hcut
              cases kq with
              | zero => exact absurd HA.out (by simp [zelligelaw23_PointsLongest.j1])
              | succ kj13 =>
                have H := HA.out
                clear HA
                simp only [zelligelaw23_PointsLongest.j1] at H
                by_cases c21 : x65_13 = true
                · subst c21
                  rw [if_pos rfl] at H
                  exact absurd (Option.some.inj (H.trans (congrArg some hT.out))) (by decide)
                · replace c21 := Bool.eq_false_iff.mpr c21
                  subst c21
                  rw [if_neg (show ¬ (false = true) by decide)] at H
                  by_cases c22 : t245 = (x0_1.size : Int)
                  · rw [if_pos c22] at H
                    have c22b0 : (t245 == (x0_1.size : Int)) = true := beq_iff_eq.mpr c22
                    have c22b1 : (t245 != (x0_1.size : Int)) = false := bne_eq_false_iff_eq.mpr c22
                    clear c22
                    obtain ⟨t256, A23, H⟩ := bindE H
                    obtain rfl := Option.some.inj H
                    go_wp2_with (first | ((with_reducible refine gate_callee (f := 10) rfl ?_); refine goesL_ (some 70) rfl rfl Try.func10 (by kernel_rfl) rfl #[] rfl (by (try simp only [List.map_toArray, List.map_cons, List.map_nil]); first | done | rfl | (simp only [List.length_drop, List.length_take]; rfl)) ?_; (with_reducible refine (zelligelaw23_lives.calls kj13  t256 _ A23.out).mono ?_); rintro e w24 ⟨rfl, hb⟩; refine ⟨_, rfl, ?_⟩; have n0_ := Aside0.mk (below_step (by repeat (first | (with_reducible first | exact HB.out | apply below_alloc | apply pw_below_drewN | apply below_drew1) | exact HB.out)) hb); clear HB; have HB := n0_; clear n0_; (try clear hb); (try clear hb2); (try clear hk); (try clear hi)))
                    go_ret
                    exact ⟨by first | rfl | (simp [errW_none, errW_some] <;> rfl) | (simp [*, errW_none, errW_some] <;> rfl), by repeat (first | (with_reducible first | exact HB.out | apply below_alloc | apply pw_below_drewN | apply below_drew1) | exact HB.out)⟩
                  · rw [if_neg c22] at H
                    have c22b0 : (t245 == (x0_1.size : Int)) = false := beq_eq_false_iff_ne.mpr c22
                    have c22b1 : (t245 != (x0_1.size : Int)) = true := bne_iff_ne.mpr c22
                    obtain ⟨ji25, hji25⟩ : ∃ j_ : Int, (wrap64 (t245 + 1)) = j_ := ⟨_, rfl⟩
                    replace H : (if 0 ≤ (ji25) then (if (ji25) ≤ (x0_1.size : Int) then ((points_Parse.f kj13 (x0_1.extract 0 ((ji25) : Int).toNat)).bind fun bt257 => (if bt257.2.2.1 = t245 then (if bt257.2.2.2 = 17 then ((zelligelaw23_lives.f kj13).bind fun t263 => (some t263)) else (some false)) else (some false))) else (none)) else (none)) = some r := by first | (rw [hji25] at H; exact H) | (simp only [hji25] at H ⊢; exact H)
                    have hji25w : (IntKind.i64.wrap (t245 + 1)) = ji25 := (i64_w _).trans hji25
                    by_cases c26 : 0 ≤ (ji25)
                    · rw [if_pos c26] at H
                      have c26b0 := eq_true c26
                      have c26b1 : decide (0 ≤ (ji25)) = true := decide_eq_true c26
                      clear c26
                      by_cases c27 : (ji25) ≤ (x0_1.size : Int)
                      · rw [if_pos c27] at H
                        have c27b0 := eq_true c27
                        have c27b1 : decide ((ji25) ≤ (x0_1.size : Int)) = true := decide_eq_true c27
                        clear c27
                        obtain ⟨⟨t257, t258, t259, t260⟩, A28, H⟩ := bindE H
                        replace H : (if t259 = t245 then (if t260 = 17 then ((zelligelaw23_lives.f kj13).bind fun t263 => (some t263)) else (some false)) else (some false)) = some r := H
                        by_cases c29 : t259 = t245
                        · rw [if_pos c29] at H
                          have c29b0 : (t259 == t245) = true := beq_iff_eq.mpr c29
                          have c29b1 : (t259 != t245) = false := bne_eq_false_iff_eq.mpr c29
                          clear c29
                          by_cases c30 : t260 = 17
                          · rw [if_pos c30] at H
                            have c30b0 : (t260 == 17) = true := beq_iff_eq.mpr c30
                            have c30b1 : (t260 != 17) = false := bne_eq_false_iff_eq.mpr c30
                            clear c30
                            obtain ⟨t263, A31, H⟩ := bindE H
                            obtain rfl := Option.some.inj H
                            go_wp2_with (first | ((with_reducible refine gate_callee (f := 7) rfl ?_); refine goesL_ (some 76) rfl rfl Try.func7 (by kernel_rfl) rfl #[.string (x0_1.extract 0 ((ji25) : Int).toNat)] rfl (by (try simp only [List.map_toArray, List.map_cons, List.map_nil]); first | done | (simp only [hji25]; rfl) | rfl | (simp only [List.length_drop, List.length_take]; rfl)) ?_; (with_reducible refine (points_Parse.calls kj13 (x0_1.extract 0 ((ji25) : Int).toNat) t257 t258 t259 t260 _ A28.out).mono ?_); rintro e w32 ⟨v261, rfl, ho0, hb⟩; refine ⟨_, rfl, ?_⟩; have n0_ := Aside0.mk (Kd.R_lower ho0 (below_size (by repeat (first | (with_reducible first | exact HB.out | apply below_alloc | apply pw_below_drewN | apply below_drew1) | exact HB.out)))); have n1_ := Aside0.mk (below_step (by repeat (first | (with_reducible first | exact HB.out | apply below_alloc | apply pw_below_drewN | apply below_drew1) | exact HB.out)) hb); clear HB; have HO262 := n0_; have HB := n1_; clear n0_ n1_; (try clear hb); (try clear hb2); (try clear hk); (try clear hi); (try clear ho0)) | (go_at_call 10; (with_reducible refine (zelligelaw23_lives.calls kj13  t263 _ A31.out).mono ?_); rintro e w33 ⟨rfl, hb⟩; have n0_ := Aside0.mk (Kd.R_below (by (with_reducible repeat (first | apply Kd.R_alloc | apply Kd.R_drewN | apply Kd.R_drew)); exact HO262.out) hb); have n1_ := Aside0.mk (below_step (by repeat (first | (with_reducible first | exact HB.out | apply below_alloc | apply pw_below_drewN | apply below_drew1) | exact HB.out)) hb); clear HO262; clear HB; have HO262 := n0_; have HB := n1_; clear n0_ n1_; (try clear hb); (try clear hb2); (try clear hk); (try clear hi)))
                            go_ret
                            exact ⟨by first | rfl | (simp [errW_none, errW_some] <;> rfl) | (simp only [← hji25]; first | rfl | (simp [errW_none, errW_some] <;> rfl)) | (simp [*, errW_none, errW_some] <;> rfl), by repeat (first | (with_reducible first | exact HB.out | apply below_alloc | apply pw_below_drewN | apply below_drew1) | exact HB.out)⟩
                          · rw [if_neg c30] at H
                            have c30b0 : (t260 == 17) = false := beq_eq_false_iff_ne.mpr c30
                            have c30b1 : (t260 != 17) = true := bne_iff_ne.mpr c30
                            exact absurd (Option.some.inj (H.trans (congrArg some hT.out))) (by decide)
                        · rw [if_neg c29] at H
                          have c29b0 : (t259 == t245) = false := beq_eq_false_iff_ne.mpr c29
                          have c29b1 : (t259 != t245) = true := bne_iff_ne.mpr c29
                          exact absurd (Option.some.inj (H.trans (congrArg some hT.out))) (by decide)
                      · rw [if_neg c27] at H
                        exact absurd H (by simp)
                    · rw [if_neg c26] at H
                      exact absurd H (by simp)
          · rw [if_neg c12] at H
            exact absurd H (by simp)
        · rw [if_neg c11] at H
          exact absurd H (by simp)

/-- THE ONE PURE STATEMENT of zelligelaw23_PointsLongest: yours. -/
def zelligelaw23_PointsLongest.Pure : Prop := ∀ (a0 : ByteArray), a0.size ≤ 140737488351232 → ∃ k, zelligelaw23_PointsLongest.f k a0 = some true
theorem zelligelaw23_PointsLongest.walk (P : zelligelaw23_PointsLongest.Pure) (a0 : ByteArray) (w : World) (w0 : a0.size ≤ 140737488351232) :
    Calls Try.prog 4 #[.string a0] w fun e w' => e = .returned (.bool true) ∧ Below w.heap.size w w' := by
  obtain ⟨k, h⟩ := P a0 w0
  refine (zelligelaw23_PointsLongest.calls k a0 true w h ⟨rfl⟩).mono ?_
  rintro e w' ⟨rfl, hd⟩
  exact ⟨rfl, hd⟩

end Go.Proofs.Ytgpepiefojjkaaa.ZPts
