-- printed by zprint.py, a program of this session's
import Derived.Test.YtmfmojldebhboaaDoorZSx0
import Derived.Test.YtmfmojldebhboaaDoorZSx4
import Derived.Test.YtmfmojldebhboaaDoorZSx5
namespace Go.Proofs.YtmfmojldebhboaaDoor.ZS
open Go.RowKit Go.Proofs.YtmfmojldebhboaaDoorW.PrintWords Go.Proofs.YtmfmojldebhboaaDoorW.PrintLast Go.Proofs.YtmfmojldebhboaaDoorW.PrintMore
set_option linter.unusedVariables false
set_option linter.unusedSimpArgs false

/-! ### lex_Number: function 37 -/
mutual
def lex_Number.j0 : Nat → ByteArray → Int → Bool → Option (Int × Int × Bool)
  | 0, _, _, _ => none
  | k + 1, x0, x1, x9 => if x9 = true then (lex_Number.j1 k x0 (wrap64 (x1 + 1)) x9) else (lex_Number.j1 k x0 x1 x9)
def lex_Number.j1 : Nat → ByteArray → Int → Bool → Option (Int × Int × Bool)
  | 0, _, _, _ => none
  | k + 1, x0, x1, x9 => if x1 = (x0.size : Int) then (lex_Number.j2 k x0 x1 x9 true) else (if 0 ≤ x1 then (if x1 < (x0.size : Int) then ((lex_digit.f (bt x0 x1)).bind fun t194 => (if t194 = true then (if x9 = true then (lex_Number.j2 k x0 x1 x9 ((bt x0 x1) == 48)) else (lex_Number.j2 k x0 x1 x9 false)) else (lex_Number.j2 k x0 x1 x9 true))) else (none)) else (none))
def lex_Number.j2 : Nat → ByteArray → Int → Bool → Bool → Option (Int × Int × Bool)
  | 0, _, _, _, _ => none
  | k + 1, x0, x1, x9, x50 => if x50 = true then (some (0, x1, false)) else (if 0 ≤ x1 then (if x1 < (x0.size : Int) then (if (bt x0 x1) = 48 then (some (0, wrap64 (x1 + 1), true)) else (lex_Number.l0 k x0 x1 x9 0)) else (none)) else (none))
def lex_Number.l0 : Nat → ByteArray → Int → Bool → Int → Option (Int × Int × Bool)
  | 0, _, _, _, _ => none
  | k + 1, x0, x1, x9, x10 => if x1 < (x0.size : Int) then (if 0 ≤ x1 then ((lex_digit.f (bt x0 x1)).bind fun t195 => (lex_Number.j4 k x0 x1 x9 x10 t195)) else (none)) else (lex_Number.j4 k x0 x1 x9 x10 false)
def lex_Number.j4 : Nat → ByteArray → Int → Bool → Int → Bool → Option (Int × Int × Bool)
  | 0, _, _, _, _, _ => none
  | k + 1, x0, x1, x9, x10, x67 => if x67 = true then (if 0 ≤ x1 then (if x1 < (x0.size : Int) then (if x10 > ((4611686018427387904 - (((bt x0 x1) - 48) % 256)) / 10) then (lex_Number.l0 k x0 (wrap64 (x1 + 1)) x9 4611686018427387904) else (lex_Number.l0 k x0 (wrap64 (x1 + 1)) x9 (wrap64 ((wrap64 (10 * x10)) + (((bt x0 x1) - 48) % 256))))) else (none)) else (none)) else (if x9 = true then (some (wrap64 (-x10), x1, true)) else (some (x10, x1, true)))
end
def lex_Number.f (k : Nat) (a0 : ByteArray) (a1 : Int) (a2 : Bool) : Option (Int × Int × Bool) := (lex_within.f a0 a1).bind fun t193 => (if a2 = true then (if t193 < (a0.size : Int) then (if 0 ≤ t193 then (lex_Number.j0 k a0 t193 ((bt a0 t193) == 45)) else (none)) else (lex_Number.j0 k a0 t193 false)) else (lex_Number.j0 k a0 t193 false))
theorem lex_Number.mono_l : ∀ k, (∀ y0 y1 y2, LeO (lex_Number.j0 k y0 y1 y2) (lex_Number.j0 (k + 1) y0 y1 y2)) ∧ (∀ y0 y1 y2, LeO (lex_Number.j1 k y0 y1 y2) (lex_Number.j1 (k + 1) y0 y1 y2)) ∧ (∀ y0 y1 y2 y3, LeO (lex_Number.j2 k y0 y1 y2 y3) (lex_Number.j2 (k + 1) y0 y1 y2 y3)) ∧ (∀ y0 y1 y2 y3, LeO (lex_Number.l0 k y0 y1 y2 y3) (lex_Number.l0 (k + 1) y0 y1 y2 y3)) ∧ (∀ y0 y1 y2 y3 y4, LeO (lex_Number.j4 k y0 y1 y2 y3 y4) (lex_Number.j4 (k + 1) y0 y1 y2 y3 y4))
  | 0 => ⟨fun _ _ _ r h => by simp [lex_Number.j0] at h, fun _ _ _ r h => by simp [lex_Number.j1] at h, fun _ _ _ _ r h => by simp [lex_Number.j2] at h, fun _ _ _ _ r h => by simp [lex_Number.l0] at h, fun _ _ _ _ _ r h => by simp [lex_Number.j4] at h⟩
  | k + 1 => by
    obtain ⟨ih0, ih1, ih2, ih3, ih4⟩ := lex_Number.mono_l k
    refine ⟨?_, ?_, ?_, ?_, ?_⟩
    · intro y0 y1 y2
      unfold lex_Number.j0
      repeat' first
      | (with_reducible exact ih0 _ _ _)
      | (with_reducible exact ih1 _ _ _)
      | (with_reducible exact ih2 _ _ _ _)
      | (with_reducible exact ih3 _ _ _ _)
      | (with_reducible exact ih4 _ _ _ _ _)
      | (with_reducible exact LeO.refl _)
      | (with_reducible exact LeO.none _)
      | (with_reducible refine LeO.ite ?_ ?_)
      | (with_reducible refine LeO.bind ?_ (fun _ => ?_))
      | exact ih0 _ _ _
      | exact ih1 _ _ _
      | exact ih2 _ _ _ _
      | exact ih3 _ _ _ _
      | exact ih4 _ _ _ _ _
      | exact LeO.none _
      | refine LeO.ite ?_ ?_
      | refine LeO.bind ?_ (fun _ => ?_)
    · intro y0 y1 y2
      unfold lex_Number.j1
      repeat' first
      | (with_reducible exact ih0 _ _ _)
      | (with_reducible exact ih1 _ _ _)
      | (with_reducible exact ih2 _ _ _ _)
      | (with_reducible exact ih3 _ _ _ _)
      | (with_reducible exact ih4 _ _ _ _ _)
      | (with_reducible exact LeO.refl _)
      | (with_reducible exact LeO.none _)
      | (with_reducible refine LeO.ite ?_ ?_)
      | (with_reducible refine LeO.bind ?_ (fun _ => ?_))
      | exact ih0 _ _ _
      | exact ih1 _ _ _
      | exact ih2 _ _ _ _
      | exact ih3 _ _ _ _
      | exact ih4 _ _ _ _ _
      | exact LeO.none _
      | refine LeO.ite ?_ ?_
      | refine LeO.bind ?_ (fun _ => ?_)
    · intro y0 y1 y2 y3
      unfold lex_Number.j2
      repeat' first
      | (with_reducible exact ih0 _ _ _)
      | (with_reducible exact ih1 _ _ _)
      | (with_reducible exact ih2 _ _ _ _)
      | (with_reducible exact ih3 _ _ _ _)
      | (with_reducible exact ih4 _ _ _ _ _)
      | (with_reducible exact LeO.refl _)
      | (with_reducible exact LeO.none _)
      | (with_reducible refine LeO.ite ?_ ?_)
      | (with_reducible refine LeO.bind ?_ (fun _ => ?_))
      | exact ih0 _ _ _
      | exact ih1 _ _ _
      | exact ih2 _ _ _ _
      | exact ih3 _ _ _ _
      | exact ih4 _ _ _ _ _
      | exact LeO.none _
      | refine LeO.ite ?_ ?_
      | refine LeO.bind ?_ (fun _ => ?_)
    · intro y0 y1 y2 y3
      unfold lex_Number.l0
      repeat' first
      | (with_reducible exact ih0 _ _ _)
      | (with_reducible exact ih1 _ _ _)
      | (with_reducible exact ih2 _ _ _ _)
      | (with_reducible exact ih3 _ _ _ _)
      | (with_reducible exact ih4 _ _ _ _ _)
      | (with_reducible exact LeO.refl _)
      | (with_reducible exact LeO.none _)
      | (with_reducible refine LeO.ite ?_ ?_)
      | (with_reducible refine LeO.bind ?_ (fun _ => ?_))
      | exact ih0 _ _ _
      | exact ih1 _ _ _
      | exact ih2 _ _ _ _
      | exact ih3 _ _ _ _
      | exact ih4 _ _ _ _ _
      | exact LeO.none _
      | refine LeO.ite ?_ ?_
      | refine LeO.bind ?_ (fun _ => ?_)
    · intro y0 y1 y2 y3 y4
      unfold lex_Number.j4
      repeat' first
      | (with_reducible exact ih0 _ _ _)
      | (with_reducible exact ih1 _ _ _)
      | (with_reducible exact ih2 _ _ _ _)
      | (with_reducible exact ih3 _ _ _ _)
      | (with_reducible exact ih4 _ _ _ _ _)
      | (with_reducible exact LeO.refl _)
      | (with_reducible exact LeO.none _)
      | (with_reducible refine LeO.ite ?_ ?_)
      | (with_reducible refine LeO.bind ?_ (fun _ => ?_))
      | exact ih0 _ _ _
      | exact ih1 _ _ _
      | exact ih2 _ _ _ _
      | exact ih3 _ _ _ _
      | exact ih4 _ _ _ _ _
      | exact LeO.none _
      | refine LeO.ite ?_ ?_
      | refine LeO.bind ?_ (fun _ => ?_)
theorem lex_Number.mono : ∀ a0 a1 a2 k, LeO (lex_Number.f k a0 a1 a2) (lex_Number.f (k + 1) a0 a1 a2) := by
  intro a0 a1 a2 k
  obtain ⟨ih0, ih1, ih2, ih3, ih4⟩ := lex_Number.mono_l k
  unfold lex_Number.f
  repeat' first
      | (with_reducible exact ih0 _ _ _)
      | (with_reducible exact ih1 _ _ _)
      | (with_reducible exact ih2 _ _ _ _)
      | (with_reducible exact ih3 _ _ _ _)
      | (with_reducible exact ih4 _ _ _ _ _)
      | (with_reducible exact LeO.refl _)
      | (with_reducible exact LeO.none _)
      | (with_reducible refine LeO.ite ?_ ?_)
      | (with_reducible refine LeO.bind ?_ (fun _ => ?_))
      | exact ih0 _ _ _
      | exact ih1 _ _ _
      | exact ih2 _ _ _ _
      | exact ih3 _ _ _ _
      | exact ih4 _ _ _ _ _
      | exact LeO.none _
      | refine LeO.ite ?_ ?_
      | refine LeO.bind ?_ (fun _ => ?_)
set_option maxHeartbeats 8000000 in
set_option maxRecDepth 100000 in
theorem lex_Number.calls (k : Nat) (a0 : ByteArray) (a1 : Int) (a2 : Bool) (r1 : Int) (r2 : Int) (r3 : Bool) (w : World) (h : lex_Number.f k a0 a1 a2 = some (r1, r2, r3)) :
    Calls Tryd.prog 37 #[.string a0, .int .i64 a1, .bool a2] w fun e w' => e = .returned (.tuple #[.int .i64 r1, .int .i64 r2, .bool r3]) ∧ Below w.heap.size w w' := by
  have HB := Aside0.mk (Below.refl w.heap.size w)
  have H : ((lex_within.f a0 a1).bind fun t193 => (if a2 = true then (if t193 < (a0.size : Int) then (if 0 ≤ t193 then (lex_Number.j0 k a0 t193 ((bt a0 t193) == 45)) else (none)) else (lex_Number.j0 k a0 t193 false)) else (lex_Number.j0 k a0 t193 false))) = some (r1, r2, r3) := h
  clear h
  obtain ⟨t193, A4, H⟩ := bindE H
  have HC5 := Aside0.mk H
  clear H
  go_enter Tryd.func37, Tryd.ntmps37
  go_upto_region 2 with (first | ((with_reducible refine gate_callee (f := 43) rfl ?_); refine goesL_ (some 14) rfl rfl Tryd.func43 (by kernel_rfl) rfl #[.string a0, .int .i64 a1] rfl (by (try simp only [List.map_toArray, List.map_cons, List.map_nil]); first | done | rfl | (simp only [List.length_drop, List.length_take]; rfl)) ?_; (with_reducible refine (lex_within.calls a0 a1 t193 _ A4.out).mono ?_); rintro e w6 ⟨rfl, hb⟩; refine ⟨_, rfl, ?_⟩; have n0_ := Aside0.mk (below_step (by repeat (first | (with_reducible first | exact HB.out | apply below_alloc | apply pw_below_drewN | apply below_drew1) | exact HB.out)) hb); clear HB; have HB := n0_; clear n0_; (try clear hb); (try clear hb2); (try clear hk); (try clear hi)))
  (try simp only [Act.put, List.setIfInBounds_toArray, List.set_cons_zero, List.set_cons_succ])
  go_cut [9] (fun v9 wc => ∃ (kq : Nat) (x9_4 : Bool), v9 = .bool x9_4 ∧ Aside0 (lex_Number.j0 kq a0 t193 x9_4 = some (r1, r2, r3)) ∧ Aside0 (kq ≤ k) ∧ Aside0 (Below w.heap.size w wc))
  case first =>
    have H := HC5.out
    clear HC5
    by_cases c7 : a2 = true
    · subst c7
      rw [if_pos rfl] at H
      by_cases c8 : t193 < (a0.size : Int)
      · rw [if_pos c8] at H
        have c8b0 : decide (t193 < (a0.size : Int)) = true := decide_eq_true c8
        clear c8
        (first | rw [c8b0] | (simp only [i64_w, i32_w]; rw [c8b0]) | rw [c8b1] | skip)
        by_cases c9 : 0 ≤ t193
        · rw [if_pos c9] at H
          have c9b0 : decide (0 ≤ t193) = true := decide_eq_true c9
          clear c9
          have H' := Aside0.mk H
          clear H
          have p10 : 0 ≤ (t193 : Int) := of_decide_eq_true (by first | (with_reducible assumption) | assumption)
          have q10 : t193 < (a0.size : Int) := of_decide_eq_true (by first | (with_reducible assumption) | assumption)
          have hx10 := bt_at a0 t193
          replace p10 := eq_true p10
          replace q10 := eq_true q10
          go_wp2
          go_meet
          case rel => exact ⟨_, (((bt a0 t193) == 45)), (by first | rfl | (simp; done) | (simp [*]; done)), H', ⟨by first | omega | exact Nat.le_refl _⟩, ⟨by repeat (first | (with_reducible first | exact HB.out | apply below_alloc | apply pw_below_drewN | apply below_drew1) | exact HB.out)⟩⟩
        · rw [if_neg c9] at H
          exact absurd H (by simp)
      · rw [if_neg c8] at H
        have c8b0 : decide (t193 < (a0.size : Int)) = false := decide_eq_false c8
        clear c8
        (first | rw [c8b0] | (simp only [i64_w, i32_w]; rw [c8b0]) | rw [c8b1] | skip)
        have H' := Aside0.mk H
        clear H
        go_wp2
        go_meet
        case rel => exact ⟨_, (false), (by first | rfl | (simp; done) | (simp [*]; done)), H', ⟨by first | omega | exact Nat.le_refl _⟩, ⟨by repeat (first | (with_reducible first | exact HB.out | apply below_alloc | apply pw_below_drewN | apply below_drew1) | exact HB.out)⟩⟩
    · replace c7 := Bool.eq_false_iff.mpr c7
      subst c7
      rw [if_neg (show ¬ (false = true) by decide)] at H
      have H' := Aside0.mk H
      clear H
      go_wp2
      go_meet
      case rel => exact ⟨_, (false), (by first | rfl | (simp; done) | (simp [*]; done)), H', ⟨by first | omega | exact Nat.le_refl _⟩, ⟨by repeat (first | (with_reducible first | exact HB.out | apply below_alloc | apply pw_below_drewN | apply below_drew1) | exact HB.out)⟩⟩
  case rest =>
    clear HC5
    try clear p1
    try clear q1
    try clear hx1
    try clear p2
    try clear c3
    try clear c4
    try clear c7
    try clear c8
    try clear c8b0
    try clear c8b1
    try clear c9
    try clear c9b0
    try clear p10
    try clear q10
    try clear hx10
    try clear p10
    try clear q10
    obtain ⟨kq, x9_4, rfl, HA, HJ4, HB⟩ := hcut
    cases kq with
    | zero => exact absurd HA.out (by simp [lex_Number.j0])
    | succ kj4 =>
      have H := HA.out
      clear HA
      simp only [lex_Number.j0] at H
      have HC11 := Aside0.mk H
      clear H
      go_upto_if 28 with (fail)
      go_cut [1] (fun v1 wc => ∃ (kq : Nat) (x1_10 : Int), v1 = .int .i64 x1_10 ∧ Aside0 (lex_Number.j1 kq a0 x1_10 x9_4 = some (r1, r2, r3)) ∧ Aside0 (kq ≤ kj4) ∧ Aside0 (Below w.heap.size w wc))
      case first =>
        have H := HC11.out
        clear HC11
        by_cases c12 : x9_4 = true
        · subst c12
          rw [if_pos rfl] at H
          have H' := Aside0.mk H
          clear H
          go_wp2
          go_meet
          case rel => exact ⟨_, (wrap64 (t193 + 1)), (by first | rfl | (simp; done) | (simp [*]; done)), H', ⟨by have := HJ4.out; first | omega | exact Nat.le_refl _⟩, ⟨by repeat (first | (with_reducible first | exact HB.out | apply below_alloc | apply pw_below_drewN | apply below_drew1) | exact HB.out)⟩⟩
        · replace c12 := Bool.eq_false_iff.mpr c12
          subst c12
          rw [if_neg (show ¬ (false = true) by decide)] at H
          have H' := Aside0.mk H
          clear H
          go_wp2
          go_meet
          case rel => exact ⟨_, (t193), (by first | rfl | (simp; done) | (simp [*]; done)), H', ⟨by have := HJ4.out; first | omega | exact Nat.le_refl _⟩, ⟨by repeat (first | (with_reducible first | exact HB.out | apply below_alloc | apply pw_below_drewN | apply below_drew1) | exact HB.out)⟩⟩
      case rest =>
        clear HC11
        try clear c1
        try clear p1
        try clear q1
        try clear hx1
        try clear p2
        try clear c3
        try clear c4
        try clear p6
        try clear c7
        try clear c8
        try clear c8b0
        try clear c8b1
        try clear c9
        try clear c9b0
        try clear p10
        try clear q10
        try clear hx10
        try clear c12
        try clear p1
        try clear p10
        try clear p2
        try clear q1
        try clear q10
        obtain ⟨kq, x1_10, rfl, HA, HJ10, HB⟩ := hcut
        cases kq with
        | zero => exact absurd HA.out (by simp [lex_Number.j1])
        | succ kj10 =>
          have H := HA.out
          clear HA
          simp only [lex_Number.j1] at H
          have HC13 := Aside0.mk H
          clear H
          go_upto_region 5 with (fail)
          go_cut [50] (fun v50 wc => ∃ (kq : Nat) (x50_12 : Bool), v50 = .bool x50_12 ∧ Aside0 (lex_Number.j2 kq a0 x1_10 x9_4 x50_12 = some (r1, r2, r3)) ∧ Aside0 (kq ≤ kj10) ∧ Aside0 (Below w.heap.size w wc))
          case first =>
            have H := HC13.out
            clear HC13
            by_cases c14 : x1_10 = (a0.size : Int)
            · rw [if_pos c14] at H
              have c14b0 : (x1_10 == (a0.size : Int)) = true := beq_iff_eq.mpr c14
              have c14b1 : (x1_10 != (a0.size : Int)) = false := bne_eq_false_iff_eq.mpr c14
              clear c14
              (first | rw [c14b0] | (simp only [i64_w, i32_w]; rw [c14b0]) | rw [c14b1] | skip)
              have H' := Aside0.mk H
              clear H
              go_wp2
              go_meet
              case rel => exact ⟨_, (true), (by first | rfl | (simp; done) | (simp [*]; done)), H', ⟨by have := HJ4.out; have := HJ10.out; first | omega | exact Nat.le_refl _⟩, ⟨by repeat (first | (with_reducible first | exact HB.out | apply below_alloc | apply pw_below_drewN | apply below_drew1) | exact HB.out)⟩⟩
            · rw [if_neg c14] at H
              have c14b0 : (x1_10 == (a0.size : Int)) = false := beq_eq_false_iff_ne.mpr c14
              have c14b1 : (x1_10 != (a0.size : Int)) = true := bne_iff_ne.mpr c14
              (first | rw [c14b0] | (simp only [i64_w, i32_w]; rw [c14b0]) | rw [c14b1] | skip)
              by_cases c15 : 0 ≤ x1_10
              · rw [if_pos c15] at H
                have c15b0 : decide (0 ≤ x1_10) = true := decide_eq_true c15
                clear c15
                by_cases c16 : x1_10 < (a0.size : Int)
                · rw [if_pos c16] at H
                  have c16b0 : decide (x1_10 < (a0.size : Int)) = true := decide_eq_true c16
                  clear c16
                  obtain ⟨t194, A18, H⟩ := bindE H
                  by_cases c19 : t194 = true
                  · subst c19
                    rw [if_pos rfl] at H
                    by_cases c20 : x9_4 = true
                    · subst c20
                      rw [if_pos rfl] at H
                      have H' := Aside0.mk H
                      clear H
                      have p17 : 0 ≤ (x1_10 : Int) := of_decide_eq_true (by first | (with_reducible assumption) | assumption)
                      have q17 : x1_10 < (a0.size : Int) := of_decide_eq_true (by first | (with_reducible assumption) | assumption)
                      have hx17 := bt_at a0 x1_10
                      replace p17 := eq_true p17
                      replace q17 := eq_true q17
                      go_wp2_with (first | (go_at_call 46; (with_reducible refine (lex_digit.calls (bt a0 x1_10) true _ A18.out).mono ?_); rintro e w' ⟨rfl, ⟨nd, rfl⟩⟩; have p21 : 0 ≤ (x1_10 : Int) := of_decide_eq_true (by first | (with_reducible assumption) | assumption); have q21 : x1_10 < (a0.size : Int) := of_decide_eq_true (by first | (with_reducible assumption) | assumption); have hx21 := bt_at a0 x1_10; replace p21 := eq_true p21; replace q21 := eq_true q21))
                      go_meet
                      case rel => exact ⟨_, (((bt a0 x1_10) == 48)), (by first | rfl | (simp; done) | (simp [*]; done)), H', ⟨by have := HJ4.out; have := HJ10.out; first | omega | exact Nat.le_refl _⟩, ⟨by repeat (first | (with_reducible first | exact HB.out | apply below_alloc | apply pw_below_drewN | apply below_drew1) | exact HB.out)⟩⟩
                    · replace c20 := Bool.eq_false_iff.mpr c20
                      subst c20
                      rw [if_neg (show ¬ (false = true) by decide)] at H
                      have H' := Aside0.mk H
                      clear H
                      have p17 : 0 ≤ (x1_10 : Int) := of_decide_eq_true (by first | (with_reducible assumption) | assumption)
                      have q17 : x1_10 < (a0.size : Int) := of_decide_eq_true (by first | (with_reducible assumption) | assumption)
                      have hx17 := bt_at a0 x1_10
                      replace p17 := eq_true p17
                      replace q17 := eq_true q17
                      go_wp2_with (first | (go_at_call 46; (with_reducible refine (lex_digit.calls (bt a0 x1_10) true _ A18.out).mono ?_); rintro e w' ⟨rfl, ⟨nd, rfl⟩⟩))
                      go_meet
                      case rel => exact ⟨_, (false), (by first | rfl | (simp; done) | (simp [*]; done)), H', ⟨by have := HJ4.out; have := HJ10.out; first | omega | exact Nat.le_refl _⟩, ⟨by repeat (first | (with_reducible first | exact HB.out | apply below_alloc | apply pw_below_drewN | apply below_drew1) | exact HB.out)⟩⟩
                  · replace c19 := Bool.eq_false_iff.mpr c19
                    subst c19
                    rw [if_neg (show ¬ (false = true) by decide)] at H
                    have H' := Aside0.mk H
                    clear H
                    have p17 : 0 ≤ (x1_10 : Int) := of_decide_eq_true (by first | (with_reducible assumption) | assumption)
                    have q17 : x1_10 < (a0.size : Int) := of_decide_eq_true (by first | (with_reducible assumption) | assumption)
                    have hx17 := bt_at a0 x1_10
                    replace p17 := eq_true p17
                    replace q17 := eq_true q17
                    go_wp2_with (first | (go_at_call 46; (with_reducible refine (lex_digit.calls (bt a0 x1_10) false _ A18.out).mono ?_); rintro e w' ⟨rfl, ⟨nd, rfl⟩⟩))
                    go_meet
                    case rel => exact ⟨_, (true), (by first | rfl | (simp; done) | (simp [*]; done)), H', ⟨by have := HJ4.out; have := HJ10.out; first | omega | exact Nat.le_refl _⟩, ⟨by repeat (first | (with_reducible first | exact HB.out | apply below_alloc | apply pw_below_drewN | apply below_drew1) | exact HB.out)⟩⟩
                · rw [if_neg c16] at H
                  exact absurd H (by simp)
              · rw [if_neg c15] at H
                exact absurd H (by simp)
          case rest =>
            clear HC13
            try clear c1
            try clear p1
            try clear q1
            try clear hx1
            try clear c2
            try clear p2
            try clear q2
            try clear hx2
            try clear c3
            try clear c4
            try clear p6
            try clear c7
            try clear c8
            try clear c8b0
            try clear c8b1
            try clear c9
            try clear c9b0
            try clear p10
            try clear q10
            try clear hx10
            try clear c12
            try clear c14
            try clear c14b0
            try clear c14b1
            try clear c15
            try clear c15b0
            try clear c16
            try clear c16b0
            try clear p17
            try clear q17
            try clear hx17
            try clear c19
            try clear c20
            try clear p21
            try clear q21
            try clear hx21
            try clear p1
            try clear p10
            try clear p17
            try clear p2
            try clear p21
            try clear p6
            try clear q1
            try clear q10
            try clear q17
            try clear q21
            obtain ⟨kq, x50_12, rfl, HA, HJ12, HB⟩ := hcut
            cases kq with
            | zero => exact absurd HA.out (by simp [lex_Number.j2])
            | succ kj12 =>
              have H := HA.out
              clear HA
              simp only [lex_Number.j2] at H
              by_cases c22 : x50_12 = true
              · subst c22
                rw [if_pos rfl] at H
                simp only [Option.some.injEq, Prod.mk.injEq] at H
                obtain ⟨rfl, rfl, rfl⟩ := H
                go_wp2
                go_ret3
                exact ⟨by first | rfl | (simp [errW_none, errW_some] <;> rfl) | (simp [*, errW_none, errW_some] <;> rfl), by repeat (first | (with_reducible first | exact HB.out | apply below_alloc | apply pw_below_drewN | apply below_drew1) | exact HB.out)⟩
              · replace c22 := Bool.eq_false_iff.mpr c22
                subst c22
                rw [if_neg (show ¬ (false = true) by decide)] at H
                by_cases c23 : 0 ≤ x1_10
                · rw [if_pos c23] at H
                  have c23b0 : decide (0 ≤ x1_10) = true := decide_eq_true c23
                  clear c23
                  by_cases c24 : x1_10 < (a0.size : Int)
                  · rw [if_pos c24] at H
                    have c24b0 : decide (x1_10 < (a0.size : Int)) = true := decide_eq_true c24
                    clear c24
                    by_cases c26 : (bt a0 x1_10) = 48
                    · rw [if_pos c26] at H
                      have c26b0 : ((bt a0 x1_10) == 48) = true := beq_iff_eq.mpr c26
                      have c26b1 : ((bt a0 x1_10) != 48) = false := bne_eq_false_iff_eq.mpr c26
                      clear c26
                      simp only [Option.some.injEq, Prod.mk.injEq] at H
                      obtain ⟨rfl, rfl, rfl⟩ := H
                      have p25 : 0 ≤ (x1_10 : Int) := of_decide_eq_true (by first | (with_reducible assumption) | assumption)
                      have q25 : x1_10 < (a0.size : Int) := of_decide_eq_true (by first | (with_reducible assumption) | assumption)
                      have hx25 := bt_at a0 x1_10
                      replace p25 := eq_true p25
                      replace q25 := eq_true q25
                      go_wp2
                      go_ret3
                      exact ⟨by first | rfl | (simp [errW_none, errW_some] <;> rfl) | (simp [*, errW_none, errW_some] <;> rfl), by repeat (first | (with_reducible first | exact HB.out | apply below_alloc | apply pw_below_drewN | apply below_drew1) | exact HB.out)⟩
                    · rw [if_neg c26] at H
                      have c26b0 : ((bt a0 x1_10) == 48) = false := beq_eq_false_iff_ne.mpr c26
                      have c26b1 : ((bt a0 x1_10) != 48) = true := bne_iff_ne.mpr c26
                      have H' := Aside0.mk H
                      clear H
                      have p25 : 0 ≤ (x1_10 : Int) := of_decide_eq_true (by first | (with_reducible assumption) | assumption)
                      have q25 : x1_10 < (a0.size : Int) := of_decide_eq_true (by first | (with_reducible assumption) | assumption)
                      have hx25 := bt_at a0 x1_10
                      replace p25 := eq_true p25
                      replace q25 := eq_true q25
                      go_wp2
                      go_loopg [1, 10] kj12 (fun kq v1 v10 w' => ∃ (x1_4 : Int) (x10_4 : Int), v1 = .int .i64 x1_4 ∧ v10 = .int .i64 x10_4 ∧ Aside0 (lex_Number.l0 kq a0 x1_4 x9_4 x10_4 = some (r1, r2, r3)) ∧ Aside0 (kq ≤ kj12) ∧ Aside0 (Below w.heap.size w w'))
                      case atStart => exact ⟨(x1_10), (0), (by first | rfl | (simp; done) | (simp [*]; done)), (by first | rfl | (simp; done) | (simp [*]; done)), H', ⟨Nat.le_refl _⟩, ⟨by repeat (first | (with_reducible first | exact HB.out | apply below_alloc | apply pw_below_drewN | apply below_drew1) | exact HB.out)⟩⟩
                      case round =>
                        clear H'
                        try clear c1
                        try clear p1
                        try clear q1
                        try clear hx1
                        try clear c2
                        try clear p2
                        try clear q2
                        try clear hx2
                        try clear c3
                        try clear c4
                        try clear p6
                        try clear c7
                        try clear c8
                        try clear c8b0
                        try clear c8b1
                        try clear c9
                        try clear c9b0
                        try clear p10
                        try clear q10
                        try clear hx10
                        try clear c12
                        try clear c14
                        try clear c14b0
                        try clear c14b1
                        try clear c15
                        try clear c15b0
                        try clear c16
                        try clear c16b0
                        try clear p17
                        try clear q17
                        try clear hx17
                        try clear c19
                        try clear c20
                        try clear p21
                        try clear q21
                        try clear hx21
                        try clear c22
                        try clear c23
                        try clear c23b0
                        try clear c24
                        try clear c24b0
                        try clear p25
                        try clear q25
                        try clear hx25
                        try clear c26
                        try clear c26b0
                        try clear c26b1
                        try clear p1
                        try clear p10
                        try clear p17
                        try clear p2
                        try clear p21
                        try clear p25
                        try clear p6
                        try clear q1
                        try clear q10
                        try clear q17
                        try clear q2
                        try clear q21
                        try clear q25
                        obtain ⟨x1_4, x10_4, rfl, rfl, HA, HK4, HB⟩ := hrel
                        cases gk with
                        | zero => exact absurd HA.out (by simp [lex_Number.l0])
                        | succ k4 =>
                          have H := HA.out
                          clear HA
                          simp only [lex_Number.l0] at H
                          have HC27 := Aside0.mk H
                          clear H
                          go_upto_region 10 with (fail)
                          go_cut [67] (fun v67 wc => ∃ (kq : Nat) (x67_26 : Bool), v67 = .bool x67_26 ∧ Aside0 (lex_Number.j4 kq a0 x1_4 x9_4 x10_4 x67_26 = some (r1, r2, r3)) ∧ Aside0 (kq ≤ k4) ∧ Aside0 (Below w.heap.size w wc))
                          case first =>
                            have H := HC27.out
                            clear HC27
                            by_cases c28 : x1_4 < (a0.size : Int)
                            · rw [if_pos c28] at H
                              have c28b0 : decide (x1_4 < (a0.size : Int)) = true := decide_eq_true c28
                              clear c28
                              (first | rw [c28b0] | (simp only [i64_w, i32_w]; rw [c28b0]) | rw [c28b1] | skip)
                              by_cases c29 : 0 ≤ x1_4
                              · rw [if_pos c29] at H
                                have c29b0 : decide (0 ≤ x1_4) = true := decide_eq_true c29
                                clear c29
                                obtain ⟨t195, A31, H⟩ := bindE H
                                have H' := Aside0.mk H
                                clear H
                                have p30 : 0 ≤ (x1_4 : Int) := of_decide_eq_true (by first | (with_reducible assumption) | assumption)
                                have q30 : x1_4 < (a0.size : Int) := of_decide_eq_true (by first | (with_reducible assumption) | assumption)
                                have hx30 := bt_at a0 x1_4
                                replace p30 := eq_true p30
                                replace q30 := eq_true q30
                                go_wp2_with (first | (go_at_call 46; (with_reducible refine (lex_digit.calls (bt a0 x1_4) t195 _ A31.out).mono ?_); rintro e w' ⟨rfl, ⟨nd, rfl⟩⟩))
                                go_meet
                                case rel => exact ⟨_, (t195), (by first | rfl | (simp; done) | (simp [*]; done)), H', ⟨by have := HJ4.out; have := HJ10.out; have := HJ12.out; have := HK4.out; first | omega | exact Nat.le_refl _⟩, ⟨by repeat (first | (with_reducible first | exact HB.out | apply below_alloc | apply pw_below_drewN | apply below_drew1) | exact HB.out)⟩⟩
                              · rw [if_neg c29] at H
                                exact absurd H (by simp)
                            · rw [if_neg c28] at H
                              have c28b0 : decide (x1_4 < (a0.size : Int)) = false := decide_eq_false c28
                              clear c28
                              (first | rw [c28b0] | (simp only [i64_w, i32_w]; rw [c28b0]) | rw [c28b1] | skip)
                              have H' := Aside0.mk H
                              clear H
                              go_wp2
                              go_meet
                              case rel => exact ⟨_, (false), (by first | rfl | (simp; done) | (simp [*]; done)), H', ⟨by have := HJ4.out; have := HJ10.out; have := HJ12.out; have := HK4.out; first | omega | exact Nat.le_refl _⟩, ⟨by repeat (first | (with_reducible first | exact HB.out | apply below_alloc | apply pw_below_drewN | apply below_drew1) | exact HB.out)⟩⟩
                          case rest =>
                            clear HC27
                            try clear c1
                            try clear p1
                            try clear q1
                            try clear hx1
                            try clear c2
                            try clear p2
                            try clear q2
                            try clear hx2
                            try clear c3
                            try clear p3
                            try clear q3
                            try clear hx3
                            try clear c4
                            try clear p6
                            try clear c7
                            try clear c8
                            try clear c8b0
                            try clear c8b1
                            try clear c9
                            try clear c9b0
                            try clear p10
                            try clear q10
                            try clear hx10
                            try clear c12
                            try clear c14
                            try clear c14b0
                            try clear c14b1
                            try clear c15
                            try clear c15b0
                            try clear c16
                            try clear c16b0
                            try clear p17
                            try clear q17
                            try clear hx17
                            try clear c19
                            try clear c20
                            try clear p21
                            try clear q21
                            try clear hx21
                            try clear c22
                            try clear c23
                            try clear c23b0
                            try clear c24
                            try clear c24b0
                            try clear p25
                            try clear q25
                            try clear hx25
                            try clear c26
                            try clear c26b0
                            try clear c26b1
                            try clear c28
                            try clear c28b0
                            try clear c28b1
                            try clear c29
                            try clear c29b0
                            try clear p30
                            try clear q30
                            try clear hx30
                            try clear p1
                            try clear p10
                            try clear p17
                            try clear p2
                            try clear p21
                            try clear p25
                            try clear p30
                            try clear p6
                            try clear q1
                            try clear q10
                            try clear q17
                            try clear q2
                            try clear q21
                            try clear q25
                            try clear q30
                            obtain ⟨kq, x67_26, rfl, HA, HJ26, HB⟩ := hcut
                            cases kq with
                            | zero => exact absurd HA.out (by simp [lex_Number.j4])
                            | succ kj26 =>
                              have H := HA.out
                              clear HA
                              simp only [lex_Number.j4] at H
                              by_cases c32 : x67_26 = true
                              · subst c32
                                rw [if_pos rfl] at H
                                by_cases c33 : 0 ≤ x1_4
                                · rw [if_pos c33] at H
                                  have c33b0 : decide (0 ≤ x1_4) = true := decide_eq_true c33
                                  clear c33
                                  by_cases c34 : x1_4 < (a0.size : Int)
                                  · rw [if_pos c34] at H
                                    have c34b0 : decide (x1_4 < (a0.size : Int)) = true := decide_eq_true c34
                                    clear c34
                                    by_cases c36 : x10_4 > ((4611686018427387904 - (((bt a0 x1_4) - 48) % 256)) / 10)
                                    · rw [if_pos c36] at H
                                      have c36b0 : decide (((4611686018427387904 - (((bt a0 x1_4) - 48) % 256)) / 10) < x10_4) = true := decide_eq_true c36
                                      clear c36
                                      have H' := Aside0.mk H
                                      clear H
                                      have p35 : 0 ≤ (x1_4 : Int) := of_decide_eq_true (by first | (with_reducible assumption) | assumption)
                                      have q35 : x1_4 < (a0.size : Int) := of_decide_eq_true (by first | (with_reducible assumption) | assumption)
                                      have hx35 := bt_at a0 x1_4
                                      replace p35 := eq_true p35
                                      replace q35 := eq_true q35
                                      go_wp2
                                      go_roundg kj26
                                      case measure => have := HJ4.out; have := HJ10.out; have := HJ12.out; have := HK4.out; have := HJ26.out; omega
                                      case rel => exact ⟨(wrap64 (x1_4 + 1)), (4611686018427387904), (by first | rfl | (simp; done) | (simp [*]; done)), (by first | rfl | (simp; done) | (simp [*]; done)), H', ⟨by have := HJ4.out; have := HJ10.out; have := HJ12.out; have := HK4.out; have := HJ26.out; omega⟩, ⟨by repeat (first | (with_reducible first | exact HB.out | apply below_alloc | apply pw_below_drewN | apply below_drew1) | exact HB.out)⟩⟩
                                    · rw [if_neg c36] at H
                                      have c36b0 : decide (((4611686018427387904 - (((bt a0 x1_4) - 48) % 256)) / 10) < x10_4) = false := decide_eq_false c36
                                      clear c36
                                      have H' := Aside0.mk H
                                      clear H
                                      have p35 : 0 ≤ (x1_4 : Int) := of_decide_eq_true (by first | (with_reducible assumption) | assumption)
                                      have q35 : x1_4 < (a0.size : Int) := of_decide_eq_true (by first | (with_reducible assumption) | assumption)
                                      have hx35 := bt_at a0 x1_4
                                      replace p35 := eq_true p35
                                      replace q35 := eq_true q35
                                      go_wp2
                                      go_roundg kj26
                                      case measure => have := HJ4.out; have := HJ10.out; have := HJ12.out; have := HK4.out; have := HJ26.out; omega
                                      case rel => exact ⟨(wrap64 (x1_4 + 1)), (wrap64 ((wrap64 (10 * x10_4)) + (((bt a0 x1_4) - 48) % 256))), (by first | rfl | (simp; done) | (simp [*]; done)), (by first | rfl | (simp; done) | (simp [*]; done)), H', ⟨by have := HJ4.out; have := HJ10.out; have := HJ12.out; have := HK4.out; have := HJ26.out; omega⟩, ⟨by repeat (first | (with_reducible first | exact HB.out | apply below_alloc | apply pw_below_drewN | apply below_drew1) | exact HB.out)⟩⟩
                                  · rw [if_neg c34] at H
                                    exact absurd H (by simp)
                                · rw [if_neg c33] at H
                                  exact absurd H (by simp)
                              · replace c32 := Bool.eq_false_iff.mpr c32
                                subst c32
                                rw [if_neg (show ¬ (false = true) by decide)] at H
                                by_cases c37 : x9_4 = true
                                · subst c37
                                  rw [if_pos rfl] at H
                                  simp only [Option.some.injEq, Prod.mk.injEq] at H
                                  obtain ⟨rfl, rfl, rfl⟩ := H
                                  go_wp2
                                  go_ret3
                                  exact ⟨by first | rfl | (simp [errW_none, errW_some] <;> rfl) | (simp [*, errW_none, errW_some] <;> rfl), by repeat (first | (with_reducible first | exact HB.out | apply below_alloc | apply pw_below_drewN | apply below_drew1) | exact HB.out)⟩
                                · replace c37 := Bool.eq_false_iff.mpr c37
                                  subst c37
                                  rw [if_neg (show ¬ (false = true) by decide)] at H
                                  simp only [Option.some.injEq, Prod.mk.injEq] at H
                                  obtain ⟨rfl, rfl, rfl⟩ := H
                                  go_wp2
                                  go_ret3
                                  exact ⟨by first | rfl | (simp [errW_none, errW_some] <;> rfl) | (simp [*, errW_none, errW_some] <;> rfl), by repeat (first | (with_reducible first | exact HB.out | apply below_alloc | apply pw_below_drewN | apply below_drew1) | exact HB.out)⟩
                  · rw [if_neg c24] at H
                    exact absurd H (by simp)
                · rw [if_neg c23] at H
                  exact absurd H (by simp)

end Go.Proofs.YtmfmojldebhboaaDoor.ZS
