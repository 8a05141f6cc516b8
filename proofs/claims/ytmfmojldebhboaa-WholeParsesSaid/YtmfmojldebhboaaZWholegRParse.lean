-- printed by zprint.py, a program of this session's
import Derived.Test.YtmfmojldebhboaaZWhole0
import Derived.Test.YtmfmojldebhboaaZWholegRAdd
import Derived.Test.YtmfmojldebhboaaZWholegRTrim
namespace Go.Proofs.Ytmfmojldebhboaa.ZWhole
open Go.RowKit Go.Proofs.YtmfmojldebhboaaW.PrintWords Go.Proofs.YtmfmojldebhboaaW.PrintLast Go.Proofs.YtmfmojldebhboaaW.PrintMore
set_option linter.unusedVariables false
set_option linter.unusedSimpArgs false

/-! ### zelligeref03_Parse: function 35 -/
mutual
def zelligeref03_Parse.l0 : Nat → ByteArray → List Int → Int → Option (List Int × Int)
 | 0, _, _, _ => none
 | k + 1, x0, x4, x5 => if x5 < (x0.size : Int) then (if 0 ≤ x5 then (if (bt x0 x5) < 48 then (some ((([] : List Int)), 4)) else (if (bt x0 x5) > 57 then (some ((([] : List Int)), 4)) else (zelligeref03_Parse.l0 k x0 x4 (wrap64 (x5 + 1))))) else (none)) else (if x0.toList = ([] : List UInt8) then (zelligeref03_Parse.j1 k x0 x4 true) else (if 0 < (x0.size : Int) then (if (bt x0 0) = 48 then (zelligeref03_Parse.j1 k x0 x4 (decide ((x0.size : Int) > 1))) else (zelligeref03_Parse.j1 k x0 x4 false)) else (none)))
def zelligeref03_Parse.j1 : Nat → ByteArray → List Int → Bool → Option (List Int × Int)
 | 0, _, _, _ => none
 | k + 1, x0, x4, x36 => if x36 = true then (some ((([] : List Int)), 4)) else (if (x0.size : Int) > 2000 then (some ((([] : List Int)), 5)) else (zelligeref03_Parse.l1 k x0 x4 0))
def zelligeref03_Parse.l1 : Nat → ByteArray → List Int → Int → Option (List Int × Int)
 | 0, _, _, _ => none
 | k + 1, x0, x4, x6 => if x6 < (x0.size : Int) then ((zelligeref03_Mul.f k x4 (([10] : List Int))).bind fun t1033 => (if 0 ≤ x6 then ((zelligeref03_Trim_own.f k (([((bt x0 x6) - 48) % 256] : List Int))).bind fun t1039 => ((zelligeref03_Add.f k t1033 t1039).bind fun t1042 => (zelligeref03_Parse.l1 k x0 t1042 (wrap64 (x6 + 1))))) else (none))) else (some (x4, 0))
end
def zelligeref03_Parse.f (k : Nat) (a0 : ByteArray) : Option (List Int × Int) := zelligeref03_Parse.l0 k a0 (([] : List Int)) 0
theorem zelligeref03_Parse.mono_l : ∀ k, (∀ y0 y1 y2, LeO (zelligeref03_Parse.l0 k y0 y1 y2) (zelligeref03_Parse.l0 (k + 1) y0 y1 y2)) ∧ (∀ y0 y1 y2, LeO (zelligeref03_Parse.j1 k y0 y1 y2) (zelligeref03_Parse.j1 (k + 1) y0 y1 y2)) ∧ (∀ y0 y1 y2, LeO (zelligeref03_Parse.l1 k y0 y1 y2) (zelligeref03_Parse.l1 (k + 1) y0 y1 y2))
 | 0 => ⟨fun _ _ _ r h => by simp [zelligeref03_Parse.l0] at h, fun _ _ _ r h => by simp [zelligeref03_Parse.j1] at h, fun _ _ _ r h => by simp [zelligeref03_Parse.l1] at h⟩
 | k + 1 => by
  obtain ⟨ih0, ih1, ih2⟩ := zelligeref03_Parse.mono_l k
  refine ⟨?_, ?_, ?_⟩
  ·
   intro y0 y1 y2
   unfold zelligeref03_Parse.l0
   repeat' first
   | (with_reducible exact ih0 _ _ _)
   | (with_reducible exact ih1 _ _ _)
   | (with_reducible exact LeO.refl _)
   | (with_reducible refine LeO.ite ?_ ?_)
  ·
   intro y0 y1 y2
   unfold zelligeref03_Parse.j1
   repeat' first
   | (with_reducible exact ih2 _ _ _)
   | (with_reducible exact LeO.refl _)
   | (with_reducible refine LeO.ite ?_ ?_)
  ·
   intro y0 y1 y2
   unfold zelligeref03_Parse.l1
   repeat' first
   | (with_reducible exact ih2 _ _ _)
   | (with_reducible exact zelligeref03_Add.mono _ _ _)
   | (with_reducible exact zelligeref03_Mul.mono _ _ _)
   | (with_reducible exact zelligeref03_Trim_own.mono _ _)
   | (with_reducible exact LeO.refl _)
   | (with_reducible refine LeO.ite ?_ ?_)
   | (with_reducible refine LeO.bind ?_ (fun _ => ?_))
theorem zelligeref03_Parse.mono : ∀ a0 k, LeO (zelligeref03_Parse.f k a0) (zelligeref03_Parse.f (k + 1) a0) := by
 intro a0 k
 obtain ⟨ih0, ih1, ih2⟩ := zelligeref03_Parse.mono_l k
 unfold zelligeref03_Parse.f
 repeat' first
   | (with_reducible exact ih0 _ _ _)
def zelligeref03_Parse.T14 : Bool × List (List Nat × List Nat) := (true, [([], []), ([], []), ([0, 1], [0, 1]), ([], []), ([], []), ([3, 4], [3, 4]), ([5], [5]), ([6], [6]), ([7], [7]), ([8, 2], [8]), ([2, 9, 9], [2, 9]), ([10, 10, 0, 1, 2, 3, 4, 5, 6, 7, 8, 9, 10], [0, 10])])
def zelligeref03_Parse.B14 : List Nat := [0, 0, 3, 0, 0, 24, 56, 120, 248, 511, 1023, 2047]
theorem zelligeref03_Parse.tab14 : rtab .any (opsOf Try.f35 14) = zelligeref03_Parse.T14 := by kernel_rfl
theorem zelligeref03_Parse.bits14 : waitsOk zelligeref03_Parse.T14.2 zelligeref03_Parse.B14 = true := by kernel_rfl
set_option maxHeartbeats 8000000 in
set_option maxRecDepth 100000 in
theorem zelligeref03_Parse.calls (k : Nat) (a0 : ByteArray) (r1 : List Int) (r2 : Int) (w : World) (h : zelligeref03_Parse.f k a0 = some (r1, r2)) :
  Calls Try.prog 35 #[.string a0] w fun e w' => ∃ v0_ : Value, e = .returned (.tuple #[v0_, .int .i64 r2]) ∧ Kd.R (Kd.int .i64) 3 w' w.heap.size (fun _ => True) v0_ r1 ∧ Below w.heap.size w w' := by
 have HB := am (Below.refl w.heap.size w)
 have H : (zelligeref03_Parse.l0 k a0 (([] : List Int)) 0) = some (r1, r2) := h
 clear h
 obtain ⟨y1015, hy1015⟩ : ∃ y_ : List Int, y_ = (([] : List Int)) := ⟨_, rfl⟩
 replace H : (zelligeref03_Parse.l0 k a0 y1015 0) = some (r1, r2) := by (rw [hy1015]; with_reducible exact H)
 have Ny1015 := am hy1015
 clear hy1015
 have H' := am H
 clear H
 go_enter Try.func35, Try.ntmps35
 go_wp2_with (((with_reducible refine gate_dst (N := 7) rfl ?_); (try (refine gate_guard (by rfl) ?_; dsimp only)); refine Kd.R_lit (Kd.int .i64) _ 3 ?hg (N := 7) ?hd (xs := ([] : List Int)) (inner := []) (ok := fun _ => True) (okp := fun _ => True) ?hr ?hp (fun _ hk => hk) trivial (Below.refl _ _) (Nat.le_refl _) (by simp) ?_; (case hd => rfl); (case hg => rfl); (case hr => (go_simp; done)); (case hp => exact (Reps.none _ _)); intro v1016 w2 ho3 hb hg_ hnew_; clear hg_ hnew_; (rw [← Ny1015.out] at ho3); have HO1017 := am (Kd.R_lower ho3 (below_size HB.out)); replace HB := am (below_step HB.out hb); clear hb ho3))
 go_loopg [5] k (fun kq v5 w' => ∃ (x5_1 : Int), v5 = .int .i64 x5_1 ∧ Aside0 (zelligeref03_Parse.l0 kq a0 y1015 x5_1 = some (r1, r2)) ∧ Aside0 (kq ≤ k) ∧ Aside0 (Kd.R (Kd.int .i64) 3 w' w.heap.size (fun _ => True) v1016 y1015) ∧ Aside0 (Below w.heap.size w w'))
 case atStart => exact ⟨(0), (by rfl), H', ⟨Nat.le_refl _⟩, ⟨by exact HO1017.out⟩, ⟨by with_reducible exact HB.out⟩⟩
 case round =>
  clear H'
  obtain ⟨x5_1, rfl, HA, HK1, HO_4, HB⟩ := hrel
  cases gk with
  | zero => exact absurd HA.out (by simp [zelligeref03_Parse.l0])
  | succ k1 =>
   have H := HA.out
   clear HA
   simp only [zelligeref03_Parse.l0] at H
   by_cases c4 : x5_1 < (a0.size : Int)
   ·
    rw [if_pos c4] at H
    have c4b0 : decide (x5_1 < (a0.size : Int)) = true := decide_eq_true c4
    clear c4
    obtain ⟨c5, H⟩ := iteS H
    have c5b0 : decide (0 ≤ x5_1) = true := decide_eq_true c5
    clear c5
    by_cases c7 : (bt a0 x5_1) < 48
    ·
     rw [if_pos c7] at H
     have c7b0 : decide ((bt a0 x5_1) < 48) = true := decide_eq_true c7
     clear c7
     obtain ⟨y1018, hy1018⟩ : ∃ y_ : List Int, y_ = (([] : List Int)) := ⟨_, rfl⟩
     replace H : (some (y1018, 4)) = some (r1, r2) := by (rw [hy1018]; with_reducible exact H)
     have Ny1018 := am hy1018
     clear hy1018
     simp only [Option.some.injEq, Prod.mk.injEq] at H
     obtain ⟨rfl, rfl⟩ := H
     have p6 : 0 ≤ (x5_1 : Int) := of_decide_eq_true (by (with_reducible assumption))
     have q6 : x5_1 < (a0.size : Int) := of_decide_eq_true (by (with_reducible assumption))
     have hx6 := bt_at a0 x5_1
     replace p6 := eq_true p6
     replace q6 := eq_true q6
     go_wp2_with (((with_reducible refine gate_dst (N := 24) rfl ?_); (try (refine gate_guard (by rfl) ?_; dsimp only)); refine Kd.R_lit (Kd.int .i64) _ 3 ?hg (N := 24) ?hd (xs := ([] : List Int)) (inner := []) (ok := fun _ => True) (okp := fun _ => True) ?hr ?hp (fun _ hk => hk) trivial (Below.refl _ _) (Nat.le_refl _) (by simp) ?_; (case hd => rfl); (case hg => rfl); (case hr => (go_simp; done)); (case hp => exact (Reps.none _ _)); intro v1019 w8 ho9 hb hg_ hnew_; clear hg_ hnew_; (rw [← Ny1018.out] at ho9); have HO1020 := am (Kd.R_lower (Kd.R_new' ho9 (Kd.R_lt HO_4.out)) (below_size HB.out)); replace HO_4 := am (Kd.R_elder' HO_4.out (Kd.R_base ho9) hb); replace HB := am (below_step HB.out hb); clear hb ho9))
     go_ret2
     exact ⟨_, by rfl, by exact Kd.R_mono HO1020.out (fun _ hk => trivial), by with_reducible exact HB.out⟩
    ·
     rw [if_neg c7] at H
     have c7b0 : decide ((bt a0 x5_1) < 48) = false := decide_eq_false c7
     clear c7
     by_cases c11 : (bt a0 x5_1) > 57
     ·
      rw [if_pos c11] at H
      have c11b0 : decide (57 < (bt a0 x5_1)) = true := decide_eq_true c11
      clear c11
      obtain ⟨y1021, hy1021⟩ : ∃ y_ : List Int, y_ = (([] : List Int)) := ⟨_, rfl⟩
      replace H : (some (y1021, 4)) = some (r1, r2) := by (rw [hy1021]; with_reducible exact H)
      have Ny1021 := am hy1021
      clear hy1021
      simp only [Option.some.injEq, Prod.mk.injEq] at H
      obtain ⟨rfl, rfl⟩ := H
      have p6 : 0 ≤ (x5_1 : Int) := of_decide_eq_true (by (with_reducible assumption))
      have q6 : x5_1 < (a0.size : Int) := of_decide_eq_true (by (with_reducible assumption))
      have hx6 := bt_at a0 x5_1
      replace p6 := eq_true p6
      replace q6 := eq_true q6
      have p10 : 0 ≤ (x5_1 : Int) := of_decide_eq_true (by (with_reducible assumption))
      have q10 : x5_1 < (a0.size : Int) := of_decide_eq_true (by (with_reducible assumption))
      have hx10 := bt_at a0 x5_1
      replace p10 := eq_true p10
      replace q10 := eq_true q10
      go_wp2_with (((with_reducible refine gate_dst (N := 24) rfl ?_); (try (refine gate_guard (by rfl) ?_; dsimp only)); refine Kd.R_lit (Kd.int .i64) _ 3 ?hg (N := 24) ?hd (xs := ([] : List Int)) (inner := []) (ok := fun _ => True) (okp := fun _ => True) ?hr ?hp (fun _ hk => hk) trivial (Below.refl _ _) (Nat.le_refl _) (by simp) ?_; (case hd => rfl); (case hg => rfl); (case hr => (go_simp; done)); (case hp => exact (Reps.none _ _)); intro v1022 w12 ho13 hb hg_ hnew_; clear hg_ hnew_; (rw [← Ny1021.out] at ho13); have HO1023 := am (Kd.R_lower (Kd.R_new' ho13 (Kd.R_lt HO_4.out)) (below_size HB.out)); replace HO_4 := am (Kd.R_elder' HO_4.out (Kd.R_base ho13) hb); replace HB := am (below_step HB.out hb); clear hb ho13))
      go_ret2
      exact ⟨_, by rfl, by exact Kd.R_mono HO1023.out (fun _ hk => trivial), by with_reducible exact HB.out⟩
     ·
      rw [if_neg c11] at H
      have c11b0 : decide (57 < (bt a0 x5_1)) = false := decide_eq_false c11
      clear c11
      have H' := am H
      clear H
      have p6 : 0 ≤ (x5_1 : Int) := of_decide_eq_true (by (with_reducible assumption))
      have q6 : x5_1 < (a0.size : Int) := of_decide_eq_true (by (with_reducible assumption))
      have hx6 := bt_at a0 x5_1
      replace p6 := eq_true p6
      replace q6 := eq_true q6
      have p10 : 0 ≤ (x5_1 : Int) := of_decide_eq_true (by (with_reducible assumption))
      have q10 : x5_1 < (a0.size : Int) := of_decide_eq_true (by (with_reducible assumption))
      have hx10 := bt_at a0 x5_1
      replace p10 := eq_true p10
      replace q10 := eq_true q10
      go_wp2
      go_roundg k1
      case measure => have := HK1.out; omega
      case rel => exact ⟨(wrap64 (x5_1 + 1)), (by rfl), H', ⟨by have := HK1.out; omega⟩, ⟨by exact HO_4.out⟩, ⟨by with_reducible exact HB.out⟩⟩
   ·
    rw [if_neg c4] at H
    have c4b0 : decide (x5_1 < (a0.size : Int)) = false := decide_eq_false c4
    clear c4
    have HC14 := am H
    clear H
    go_upto_region 7 with (fail)
    go_cut [36] (fun v36 wc => ∃ (kq : Nat) (x36_13 : Bool), v36 = .bool x36_13 ∧ Aside0 (zelligeref03_Parse.j1 kq a0 y1015 x36_13 = some (r1, r2)) ∧ Aside0 (kq ≤ k1) ∧ Aside0 (Kd.R (Kd.int .i64) 3 wc w.heap.size (fun _ => True) v1016 y1015) ∧ Aside0 (Below w.heap.size w wc))
    case first =>
     have H := HC14.out
     clear HC14
     by_cases c15 : a0.toList = ([] : List UInt8)
     ·
      rw [if_pos c15] at H
      have c15b0 : (a0.toList == ([] : List UInt8)) = true := beq_iff_eq.mpr c15
      have c15b1 : (a0.toList != ([] : List UInt8)) = false := bne_eq_false_iff_eq.mpr c15
      clear c15
      (skip)
      have H' := am H
      clear H
      go_wp2
      go_meet
      case rel => exact ⟨_, (true), (by rfl), H', ⟨by have := HK1.out; omega⟩, ⟨by exact HO_4.out⟩, ⟨by with_reducible exact HB.out⟩⟩
     ·
      rw [if_neg c15] at H
      have c15b0 : (a0.toList == ([] : List UInt8)) = false := beq_eq_false_iff_ne.mpr c15
      have c15b1 : (a0.toList != ([] : List UInt8)) = true := bne_iff_ne.mpr c15
      (skip)
      obtain ⟨c16, H⟩ := iteS H
      have c16b0 : decide (0 < (a0.size : Int)) = true := decide_eq_true c16
      have c16b1 : decide (0 < a0.size) = true := decide_eq_true (by omega)
      clear c16
      by_cases c18 : (bt a0 0) = 48
      ·
       rw [if_pos c18] at H
       have c18b0 : ((bt a0 0) == 48) = true := beq_iff_eq.mpr c18
       have c18b1 : ((bt a0 0) != 48) = false := bne_eq_false_iff_eq.mpr c18
       clear c18
       have H' := am H
       clear H
       have p17 : 0 ≤ (0 : Int) := (by omega)
       have q17 : 0 < a0.size := (by have : (0 : Int) < (a0.size : Int) := of_decide_eq_true (by (with_reducible assumption)); omega)
       have hx17 : ∀ h : 0 < a0.size, ((a0[0]'h).toNat : Int) = bt a0 0 := bt_at a0 0
       clear p17
       have qi17 : (0 < (a0.size : Int)) = True := eq_true (of_decide_eq_true (by (with_reducible assumption)))
       replace q17 := eq_true q17
       go_wp2
       go_meet
       case rel => exact ⟨_, (decide ((a0.size : Int) > 1)), (by rfl), H', ⟨by have := HK1.out; omega⟩, ⟨by exact HO_4.out⟩, ⟨by with_reducible exact HB.out⟩⟩
      ·
       rw [if_neg c18] at H
       have c18b0 : ((bt a0 0) == 48) = false := beq_eq_false_iff_ne.mpr c18
       have c18b1 : ((bt a0 0) != 48) = true := bne_iff_ne.mpr c18
       have H' := am H
       clear H
       have p17 : 0 ≤ (0 : Int) := (by omega)
       have q17 : 0 < a0.size := (by have : (0 : Int) < (a0.size : Int) := of_decide_eq_true (by (with_reducible assumption)); omega)
       have hx17 : ∀ h : 0 < a0.size, ((a0[0]'h).toNat : Int) = bt a0 0 := bt_at a0 0
       clear p17
       have qi17 : (0 < (a0.size : Int)) = True := eq_true (of_decide_eq_true (by (with_reducible assumption)))
       replace q17 := eq_true q17
       go_wp2
       go_meet
       case rel => exact ⟨_, (false), (by rfl), H', ⟨by have := HK1.out; omega⟩, ⟨by exact HO_4.out⟩, ⟨by with_reducible exact HB.out⟩⟩
    case rest =>
     clear HC14
     try clear c4b0
     obtain ⟨kq, x36_13, rfl, HA, HJ13, HO_4, HB⟩ := hcut
     cases kq with
     | zero => exact absurd HA.out (by simp [zelligeref03_Parse.j1])
     | succ kj13 =>
      have H := HA.out
      clear HA
      simp only [zelligeref03_Parse.j1] at H
      by_cases c19 : x36_13 = true
      ·
       subst c19
       rw [if_pos rfl] at H
       obtain ⟨y1024, hy1024⟩ : ∃ y_ : List Int, y_ = (([] : List Int)) := ⟨_, rfl⟩
       replace H : (some (y1024, 4)) = some (r1, r2) := by (rw [hy1024]; with_reducible exact H)
       have Ny1024 := am hy1024
       clear hy1024
       simp only [Option.some.injEq, Prod.mk.injEq] at H
       obtain ⟨rfl, rfl⟩ := H
       go_wp2_with (((with_reducible refine gate_dst (N := 37) rfl ?_); (try (refine gate_guard (by rfl) ?_; dsimp only)); refine Kd.R_lit (Kd.int .i64) _ 3 ?hg (N := 37) ?hd (xs := ([] : List Int)) (inner := []) (ok := fun _ => True) (okp := fun _ => True) ?hr ?hp (fun _ hk => hk) trivial (Below.refl _ _) (Nat.le_refl _) (by simp) ?_; (case hd => rfl); (case hg => rfl); (case hr => (go_simp; done)); (case hp => exact (Reps.none _ _)); intro v1025 w20 ho21 hb hg_ hnew_; clear hg_ hnew_; (rw [← Ny1024.out] at ho21); have HO1026 := am (Kd.R_lower (Kd.R_new' ho21 (Kd.R_lt HO_4.out)) (below_size HB.out)); replace HO_4 := am (Kd.R_elder' HO_4.out (Kd.R_base ho21) hb); replace HB := am (below_step HB.out hb); clear hb ho21))
       go_ret2
       exact ⟨_, by rfl, by exact Kd.R_mono HO1026.out (fun _ hk => trivial), by with_reducible exact HB.out⟩
      ·
       replace c19 := Bool.eq_false_iff.mpr c19
       subst c19
       rw [if_neg (show ¬ (false = true) by decide)] at H
       by_cases c22 : (a0.size : Int) > 2000
       ·
        rw [if_pos c22] at H
        have c22b0 : decide (2000 < (a0.size : Int)) = true := decide_eq_true c22
        have c22b1 : decide (2000 < a0.size) = true := decide_eq_true (by omega)
        clear c22
        obtain ⟨y1027, hy1027⟩ : ∃ y_ : List Int, y_ = (([] : List Int)) := ⟨_, rfl⟩
        replace H : (some (y1027, 5)) = some (r1, r2) := by (rw [hy1027]; with_reducible exact H)
        have Ny1027 := am hy1027
        clear hy1027
        simp only [Option.some.injEq, Prod.mk.injEq] at H
        obtain ⟨rfl, rfl⟩ := H
        go_wp2_with (((with_reducible refine gate_dst (N := 41) rfl ?_); (try (refine gate_guard (by rfl) ?_; dsimp only)); refine Kd.R_lit (Kd.int .i64) _ 3 ?hg (N := 41) ?hd (xs := ([] : List Int)) (inner := []) (ok := fun _ => True) (okp := fun _ => True) ?hr ?hp (fun _ hk => hk) trivial (Below.refl _ _) (Nat.le_refl _) (by simp) ?_; (case hd => rfl); (case hg => rfl); (case hr => (go_simp; done)); (case hp => exact (Reps.none _ _)); intro v1028 w23 ho24 hb hg_ hnew_; clear hg_ hnew_; (rw [← Ny1027.out] at ho24); have HO1029 := am (Kd.R_lower (Kd.R_new' ho24 (Kd.R_lt HO_4.out)) (below_size HB.out)); replace HO_4 := am (Kd.R_elder' HO_4.out (Kd.R_base ho24) hb); replace HB := am (below_step HB.out hb); clear hb ho24))
        go_ret2
        exact ⟨_, by rfl, by exact Kd.R_mono HO1029.out (fun _ hk => trivial), by with_reducible exact HB.out⟩
       ·
        rw [if_neg c22] at H
        have c22b0 : decide (2000 < (a0.size : Int)) = false := decide_eq_false c22
        have c22b1 : decide (2000 < a0.size) = false := decide_eq_false (by omega)
        clear c22
        have H' := am H
        clear H
        go_wp2
        go_loopg [4, 6] kj13 (fun kq v4 v6 w' => ∃ (x4_3 : List Int) (x6_3 : Int), v6 = .int .i64 x6_3 ∧ Aside0 (zelligeref03_Parse.l1 kq a0 x4_3 x6_3 = some (r1, r2)) ∧ Aside0 (kq ≤ kj13) ∧ Aside0 (Kd.R (Kd.int .i64) 3 w' w.heap.size (fun _ => True) v4 x4_3) ∧ Aside0 (Below w.heap.size w w'))
        case atStart => exact ⟨(y1015), (0), (by rfl), H', ⟨Nat.le_refl _⟩, ⟨by exact HO_4.out⟩, ⟨by with_reducible exact HB.out⟩⟩
        case round =>
         clear H'
         try clear c22b0
         try clear c22b1
         obtain ⟨x4_3, x6_3, rfl, HA, HK3, HO_4, HB⟩ := hrel
         cases gk with
         | zero => exact absurd HA.out (by simp [zelligeref03_Parse.l1])
         | succ k3 =>
          have H := HA.out
          clear HA
          simp only [zelligeref03_Parse.l1] at H
          by_cases c25 : x6_3 < (a0.size : Int)
          ·
           rw [if_pos c25] at H
           have c25b0 : decide (x6_3 < (a0.size : Int)) = true := decide_eq_true c25
           clear c25
           obtain ⟨y1030, hy1030⟩ : ∃ y_ : List Int, y_ = (([10] : List Int)) := ⟨_, rfl⟩
           replace H : ((zelligeref03_Mul.f k3 x4_3 y1030).bind fun t1033 => (if 0 ≤ x6_3 then ((zelligeref03_Trim_own.f k3 (([((bt a0 x6_3) - 48) % 256] : List Int))).bind fun t1039 => ((zelligeref03_Add.f k3 t1033 t1039).bind fun t1042 => (zelligeref03_Parse.l1 k3 a0 t1042 (wrap64 (x6_3 + 1))))) else (none))) = some (r1, r2) := by (rw [hy1030]; with_reducible exact H)
           have Ny1030 := am hy1030
           clear hy1030
           obtain ⟨t1033, A26, H⟩ := bindE H
           obtain ⟨c27, H⟩ := iteS H
           have c27b0 : decide (0 ≤ x6_3) = true := decide_eq_true c27
           clear c27
           obtain ⟨y1036, hy1036⟩ : ∃ y_ : List Int, y_ = (([((bt a0 x6_3) - 48) % 256] : List Int)) := ⟨_, rfl⟩
           replace H : ((zelligeref03_Trim_own.f k3 y1036).bind fun t1039 => ((zelligeref03_Add.f k3 t1033 t1039).bind fun t1042 => (zelligeref03_Parse.l1 k3 a0 t1042 (wrap64 (x6_3 + 1))))) = some (r1, r2) := by (rw [hy1036]; with_reducible exact H)
           have Ny1036 := am hy1036
           clear hy1036
           obtain ⟨t1039, A29, H⟩ := bindE H
           obtain ⟨t1042, A30, H⟩ := bindE H
           have H' := am H
           clear H
           obtain ⟨Ao31, co31, eo31⟩ := Kd.R_slice HO_4.out
           subst eo31
           try go_wp2
           replace HO_4 := am (Kd.R_drew HO_4.out)
           replace HB := am (below_drew1 HB.out)
           have p28 : 0 ≤ (x6_3 : Int) := of_decide_eq_true (by (with_reducible assumption))
           have q28 : x6_3 < (a0.size : Int) := of_decide_eq_true (by (with_reducible assumption))
           have hx28 := bt_at a0 x6_3
           replace p28 := eq_true p28
           replace q28 := eq_true q28
           refine start_ (n := 12) (S := fun w' => True) (ds := []) #[false, false, false, false, false, false, false, false, false, false, false, false] (by kernel_rfl) rfl rfl trivial (fun hHeld => ?_); refine with_tabW zelligeref03_Parse.tab14 zelligeref03_Parse.bits14 (fun HT_ HW_ => ?_)
           generalize wr.drew = w32 at HO_4 HB hHeld ⊢
           refine pure_ (i := 0) (N := some 48) (v := ?_) (a' := ?_) #[true, false, false, false, false, false, false, false, false, false, false, false] rfl rfl (any_of HT_.out (by kernel_rfl)) (fun _ _ _ h => h) (Or.inl ⟨by rfl, ?_⟩) ?_ ?_
           rotate_left
           ·
            intro w'
            go_simp
            with_reducible rfl
           rotate_left
           ·
            simp only [Act.put, sI_, s0_, s1_, i64_w, i32_w]
            rfl
           refine pure_ (i := 3) (N := some 51) (v := ?_) (a' := ?_) #[true, false, false, true, false, false, false, false, false, false, false, false] rfl rfl (any_of HT_.out (by kernel_rfl)) (fun _ _ _ h => h) (Or.inl ⟨by rfl, ?_⟩) ?_ ?_
           rotate_left
           ·
            intro w'
            go_simp
            with_reducible rfl
           rotate_left
           ·
            simp only [Act.put, sI_, s0_, s1_, i64_w, i32_w]
            rfl
           refine pure_ (i := 4) (N := some 52) (v := ?_) (a' := ?_) #[true, false, false, true, true, false, false, false, false, false, false, false] rfl rfl (any_of HT_.out (by kernel_rfl)) (fun _ _ _ h => h) (Or.inl ⟨by rfl, ?_⟩) ?_ ?_
           rotate_left
           ·
            intro w'
            go_simp
            with_reducible rfl
           rotate_left
           ·
            simp only [Act.put, sI_, s0_, s1_, i64_w, i32_w]
            rfl
           refine take_ (i := 5) (N := some 53) (v := ?_) (a' := ?_) #[true, false, false, true, true, true, false, false, false, false, false, false] rfl rfl (take_ofW HT_.out HW_.out (by kernel_rfl)) (fun _ _ _ h => h) (Or.inl ⟨by rfl, ?_⟩) hHeld ?_ ?_
           rotate_left
           ·
            intro w' _
            go_simp
            with_reducible rfl
           rotate_left
           ·
            simp only [Act.put, sI_, s0_, s1_, i64_w, i32_w]
            rfl
           refine pure_ (i := 6) (N := some 54) (v := ?_) (a' := ?_) #[true, false, false, true, true, true, true, false, false, false, false, false] rfl rfl (any_of HT_.out (by kernel_rfl)) (fun _ _ _ h => h) (Or.inl ⟨by rfl, ?_⟩) ?_ ?_
           rotate_left
           ·
            intro w'
            go_simp
            with_reducible rfl
           rotate_left
           ·
            simp only [Act.put, sI_, s0_, s1_, i64_w, i32_w]
            rfl
           refine pure_ (i := 7) (N := some 55) (v := ?_) (a' := ?_) #[true, false, false, true, true, true, true, true, false, false, false, false] rfl rfl (any_of HT_.out (by kernel_rfl)) (fun _ _ _ h => h) (Or.inl ⟨by rfl, ?_⟩) ?_ ?_
           rotate_left
           ·
            intro w'
            go_simp
            with_reducible rfl
           rotate_left
           ·
            simp only [Act.put, sI_, s0_, s1_, i64_w, i32_w]
            rfl
           refine join_ (σ := Value × Value × Value) 3 #[true, true, true, true, true, true, true, true, true, false, false, false] (fun s_ => [(49, s_.1), (50, s_.2.1), (56, s_.2.2)]) (fun s_ w' => (Kd.R (Kd.int .i64) 3 w' w.heap.size (fun k_ => some k_ ≠ (s_.2.1 : Value).ownBlock ∧ some k_ ≠ (s_.2.2 : Value).ownBlock ∧ some k_ ≠ (.slice Ao31 x4_3.length co31 : Value).ownBlock) s_.1 y1030) ∧ (Kd.R (Kd.int .i64) 3 w' w.heap.size (fun k_ => some k_ ≠ (s_.1 : Value).ownBlock ∧ some k_ ≠ (s_.2.2 : Value).ownBlock ∧ some k_ ≠ (.slice Ao31 x4_3.length co31 : Value).ownBlock) s_.2.1 t1033) ∧ (Kd.R (Kd.int .i64) 3 w' w.heap.size (fun k_ => some k_ ≠ (s_.1 : Value).ownBlock ∧ some k_ ≠ (s_.2.1 : Value).ownBlock ∧ some k_ ≠ (.slice Ao31 x4_3.length co31 : Value).ownBlock) s_.2.2 y1036) ∧ (Kd.R (Kd.int .i64) 3 w' w.heap.size (fun k_ => some k_ ≠ (s_.1 : Value).ownBlock ∧ some k_ ≠ (s_.2.1 : Value).ownBlock ∧ some k_ ≠ (s_.2.2 : Value).ownBlock) (.slice Ao31 x4_3.length co31) x4_3) ∧ (Below w.heap.size w w')) ?_ ?_
           rotate_left
           ·
            intro hCont
            refine two_ (i := 1) (j := 8) (Ni := some 49) (Nj := some 56) #[true, true, false, true, true, true, true, true, false, false, false, false] #[true, false, false, true, true, true, true, true, true, false, false, false] rfl rfl rfl rfl (two_of HT_.out (by kernel_rfl)) (by decide) (by decide) (fun K hK => ?_) (fun K hK => ?_)
            ·
             skip
             refine Kd.R_lit_step (Kd.int .i64) _ 3 ?hg (N := 49) ?hd (xs := ([10] : List Int)) (inner := [.int .i64 10]) (ok := fun _ => True) (okp := fun _ => True) ?hr ?hp (fun _ hk => hk) trivial (Below.refl _ _) (Nat.le_refl _) (by simp) ?_; (case hd => rfl); (case hg => rfl); (case hr => (go_simp; done)); (case hp => exact (Reps.one (show Kd.M (Kd.int .i64) _ _ _ 10 [.int .i64 10] from rfl) (Reps.none _ _)))
             intro v1031 w33 ho34 hb hg_ hnew_
             clear hg_ hnew_
             (rw [← Ny1030.out] at ho34)
             have HO1032 := am (Kd.R_lower (Kd.R_new' ho34 (Kd.R_lt HO_4.out)) (below_size HB.out))
             replace HO_4 := am (Kd.R_elder' HO_4.out (Kd.R_base ho34) hb)
             replace HB := am (below_step HB.out hb)
             clear hb ho34
             obtain ⟨Ao35, co35, eo35⟩ := Kd.R_slice HO1032.out
             (subst eo35)
             refine hK.out _ _ trivial (fun hHeld => ?_)
             clear hK K
             refine norm_ (a' := ?_) ?_ ?_
             rotate_left
             ·
              show Act.put _ (some 49) _ = _
              simp only [Act.put, sI_, s0_, s1_, i64_w, i32_w]
              rfl
             refine two_ (i := 2) (j := 8) (Ni := some 50) (Nj := some 56) #[true, true, true, true, true, true, true, true, false, false, false, false] #[true, true, false, true, true, true, true, true, true, false, false, false] rfl rfl rfl rfl (two_of HT_.out (by kernel_rfl)) (by decide) (by decide) (fun K hK => ?_) (fun K hK => ?_)
             ·
              skip
              refine goes_ Try.func57 (by kernel_rfl) rfl #[.slice Ao31 x4_3.length co31, .slice Ao35 y1030.length co35] (by rfl) rfl rfl (by (try simp only [List.map_toArray, List.map_cons, List.map_nil]); rfl) ?_
              with_reducible refine (zelligeref03_Mul.calls k3 _ _ x4_3 _ _ y1030 t1033 _ ?side1 ?side2 ?side3 ?side4 A26.out).mono ?_
              (case side1 => exact (Kd.R_reads' HO_4.out).2.2)
              (case side2 => exact (Kd.R_reads' HO_4.out).2.1)
              (case side3 => exact (Kd.R_reads' HO1032.out).2.2)
              (case side4 => exact (Kd.R_reads' HO1032.out).2.1)
              rintro e w36 ⟨v1034, rfl, ho0, hb⟩
              refine ⟨_, rfl, ?_⟩
              have HO1035 := am (Kd.R_lower (Kd.R_new' (Kd.R_new' ho0 (Kd.R_lt HO_4.out)) (Kd.R_lt HO1032.out)) (below_size HB.out))
              replace HO_4 := am (Kd.R_elder' HO_4.out (Kd.R_base ho0) hb)
              replace HO1032 := am (Kd.R_elder' HO1032.out (Kd.R_base ho0) hb)
              replace HB := am (below_step HB.out hb)
              try clear hb
              try clear ho0
              refine hK.out _ _ trivial (fun hHeld => ?_)
              clear hK K
              refine norm_ (a' := ?_) ?_ ?_
              rotate_left
              ·
               show Act.put _ (some 50) _ = _
               simp only [Act.put, sI_, s0_, s1_, i64_w, i32_w]
               rfl
              refine one_ (i := 8) (N := some 56) #[true, true, true, true, true, true, true, true, true, false, false, false] rfl rfl (one_of HT_.out (by kernel_rfl)) (by decide) (fun K hK => ?_)
              refine Kd.R_lit_step (Kd.int .i64) _ 3 ?hg (N := 56) ?hd (xs := ([((bt a0 x6_3) - 48) % 256] : List Int)) (inner := [.int .i64 (((bt a0 x6_3) - 48) % 256)]) (ok := fun _ => True) (okp := fun _ => True) ?hr ?hp (fun _ hk => hk) trivial (Below.refl _ _) (Nat.le_refl _) (by simp) ?_; (case hd => rfl); (case hg => rfl); (case hr => (go_simp; simp only [zw_u32, zw_u8, zw_u32', zw_u8', IntKind.wrap_u32, IntKind.wrap_u8]; done)); (case hp => exact (Reps.one (show Kd.M (Kd.int .i64) _ _ _ (((bt a0 x6_3) - 48) % 256) [.int .i64 (((bt a0 x6_3) - 48) % 256)] from rfl) (Reps.none _ _)))
              intro v1037 w37 ho38 hb hg_ hnew_
              clear hg_ hnew_
              (rw [← Ny1036.out] at ho38)
              have HO1038 := am (Kd.R_lower (Kd.R_new' (Kd.R_new' (Kd.R_new' ho38 (Kd.R_lt HO_4.out)) (Kd.R_lt HO1032.out)) (Kd.R_lt HO1035.out)) (below_size HB.out))
              replace HO_4 := am (Kd.R_elder' HO_4.out (Kd.R_base ho38) hb)
              replace HO1032 := am (Kd.R_elder' HO1032.out (Kd.R_base ho38) hb)
              replace HO1035 := am (Kd.R_elder' HO1035.out (Kd.R_base ho38) hb)
              replace HB := am (below_step HB.out hb)
              clear hb ho38
              refine hK.out _ _ trivial (fun hHeld => ?_)
              clear hK K
              refine norm_ (a' := ?_) ?_ ?_
              rotate_left
              ·
               show Act.put _ (some 56) _ = _
               simp only [Act.put, sI_, s0_, s1_, i64_w, i32_w]
               rfl
              exact norm_ (by simp only [putAll, Act.put, sI_, s0_, s1_]) (hCont (.slice Ao35 y1030.length co35, v1034, v1037) _ ⟨(by exact Kd.R_mono HO1032.out (fun _ hk => ⟨hk.1.2, ⟨hk.2, hk.1.1.2⟩⟩)), (by exact Kd.R_mono HO1035.out (fun _ hk => ⟨hk.1.2, ⟨hk.2, hk.1.1.2⟩⟩)), (by exact Kd.R_mono HO1038.out (fun _ hk => ⟨hk.1.2, ⟨hk.2, hk.1.1.2⟩⟩)), (by exact Kd.R_mono HO_4.out (fun _ hk => ⟨hk.1.1.2, ⟨hk.1.2, hk.2⟩⟩)), HB.out⟩)
             ·
              skip
              refine Kd.R_lit_step (Kd.int .i64) _ 3 ?hg (N := 56) ?hd (xs := ([((bt a0 x6_3) - 48) % 256] : List Int)) (inner := [.int .i64 (((bt a0 x6_3) - 48) % 256)]) (ok := fun _ => True) (okp := fun _ => True) ?hr ?hp (fun _ hk => hk) trivial (Below.refl _ _) (Nat.le_refl _) (by simp) ?_; (case hd => rfl); (case hg => rfl); (case hr => (go_simp; simp only [zw_u32, zw_u8, zw_u32', zw_u8', IntKind.wrap_u32, IntKind.wrap_u8]; done)); (case hp => exact (Reps.one (show Kd.M (Kd.int .i64) _ _ _ (((bt a0 x6_3) - 48) % 256) [.int .i64 (((bt a0 x6_3) - 48) % 256)] from rfl) (Reps.none _ _)))
              intro v1037 w35 ho36 hb hg_ hnew_
              clear hg_ hnew_
              (rw [← Ny1036.out] at ho36)
              have HO1038 := am (Kd.R_lower (Kd.R_new' (Kd.R_new' ho36 (Kd.R_lt HO_4.out)) (Kd.R_lt HO1032.out)) (below_size HB.out))
              replace HO_4 := am (Kd.R_elder' HO_4.out (Kd.R_base ho36) hb)
              replace HO1032 := am (Kd.R_elder' HO1032.out (Kd.R_base ho36) hb)
              replace HB := am (below_step HB.out hb)
              clear hb ho36
              obtain ⟨Ao37, co37, eo37⟩ := Kd.R_slice HO1032.out
              ((injection eo37 with f1_ f2_ f3_; have f4_ := f1_.symm; have f5_ := f3_.symm; clear f1_ f2_ f3_; subst f4_; subst f5_))
              refine hK.out _ _ trivial (fun hHeld => ?_)
              clear hK K
              refine norm_ (a' := ?_) ?_ ?_
              rotate_left
              ·
               show Act.put _ (some 56) _ = _
               simp only [Act.put, sI_, s0_, s1_, i64_w, i32_w]
               rfl
              refine one_ (i := 2) (N := some 50) #[true, true, true, true, true, true, true, true, true, false, false, false] rfl rfl (one_of HT_.out (by kernel_rfl)) (by decide) (fun K hK => ?_)
              refine goes_ Try.func57 (by kernel_rfl) rfl #[.slice Ao31 x4_3.length co31, .slice Ao37 y1030.length co37] (by rfl) rfl rfl (by (try simp only [List.map_toArray, List.map_cons, List.map_nil]); rfl) ?_
              with_reducible refine (zelligeref03_Mul.calls k3 _ _ x4_3 _ _ y1030 t1033 _ ?side1 ?side2 ?side3 ?side4 A26.out).mono ?_
              (case side1 => exact (Kd.R_reads' HO_4.out).2.2)
              (case side2 => exact (Kd.R_reads' HO_4.out).2.1)
              (case side3 => exact (Kd.R_reads' HO1032.out).2.2)
              (case side4 => exact (Kd.R_reads' HO1032.out).2.1)
              rintro e w38 ⟨v1034, rfl, ho0, hb⟩
              refine ⟨_, rfl, ?_⟩
              have HO1035 := am (Kd.R_lower (Kd.R_new' (Kd.R_new' (Kd.R_new' ho0 (Kd.R_lt HO_4.out)) (Kd.R_lt HO1032.out)) (Kd.R_lt HO1038.out)) (below_size HB.out))
              replace HO_4 := am (Kd.R_elder' HO_4.out (Kd.R_base ho0) hb)
              replace HO1032 := am (Kd.R_elder' HO1032.out (Kd.R_base ho0) hb)
              replace HO1038 := am (Kd.R_elder' HO1038.out (Kd.R_base ho0) hb)
              replace HB := am (below_step HB.out hb)
              try clear hb
              try clear ho0
              refine hK.out _ _ trivial (fun hHeld => ?_)
              clear hK K
              refine norm_ (a' := ?_) ?_ ?_
              rotate_left
              ·
               show Act.put _ (some 50) _ = _
               simp only [Act.put, sI_, s0_, s1_, i64_w, i32_w]
               rfl
              exact norm_ (by simp only [putAll, Act.put, sI_, s0_, s1_]) (hCont (.slice Ao37 y1030.length co37, v1034, v1037) _ ⟨(by exact Kd.R_mono HO1032.out (fun _ hk => ⟨hk.2, ⟨hk.1.2, hk.1.1.2⟩⟩)), (by exact Kd.R_mono HO1035.out (fun _ hk => ⟨hk.1.2, ⟨hk.2, hk.1.1.2⟩⟩)), (by exact Kd.R_mono HO1038.out (fun _ hk => ⟨hk.1.2, ⟨hk.2, hk.1.1.2⟩⟩)), (by exact Kd.R_mono HO_4.out (fun _ hk => ⟨hk.1.1.2, ⟨hk.2, hk.1.2⟩⟩)), HB.out⟩)
            ·
             skip
             refine Kd.R_lit_step (Kd.int .i64) _ 3 ?hg (N := 56) ?hd (xs := ([((bt a0 x6_3) - 48) % 256] : List Int)) (inner := [.int .i64 (((bt a0 x6_3) - 48) % 256)]) (ok := fun _ => True) (okp := fun _ => True) ?hr ?hp (fun _ hk => hk) trivial (Below.refl _ _) (Nat.le_refl _) (by simp) ?_; (case hd => rfl); (case hg => rfl); (case hr => (go_simp; simp only [zw_u32, zw_u8, zw_u32', zw_u8', IntKind.wrap_u32, IntKind.wrap_u8]; done)); (case hp => exact (Reps.one (show Kd.M (Kd.int .i64) _ _ _ (((bt a0 x6_3) - 48) % 256) [.int .i64 (((bt a0 x6_3) - 48) % 256)] from rfl) (Reps.none _ _)))
             intro v1037 w33 ho34 hb hg_ hnew_
             clear hg_ hnew_
             (rw [← Ny1036.out] at ho34)
             have HO1038 := am (Kd.R_lower (Kd.R_new' ho34 (Kd.R_lt HO_4.out)) (below_size HB.out))
             replace HO_4 := am (Kd.R_elder' HO_4.out (Kd.R_base ho34) hb)
             replace HB := am (below_step HB.out hb)
             clear hb ho34
             refine hK.out _ _ trivial (fun hHeld => ?_)
             clear hK K
             refine norm_ (a' := ?_) ?_ ?_
             rotate_left
             ·
              show Act.put _ (some 56) _ = _
              simp only [Act.put, sI_, s0_, s1_, i64_w, i32_w]
              rfl
             refine one_ (i := 1) (N := some 49) #[true, true, false, true, true, true, true, true, true, false, false, false] rfl rfl (one_of HT_.out (by kernel_rfl)) (by decide) (fun K hK => ?_)
             refine Kd.R_lit_step (Kd.int .i64) _ 3 ?hg (N := 49) ?hd (xs := ([10] : List Int)) (inner := [.int .i64 10]) (ok := fun _ => True) (okp := fun _ => True) ?hr ?hp (fun _ hk => hk) trivial (Below.refl _ _) (Nat.le_refl _) (by simp) ?_; (case hd => rfl); (case hg => rfl); (case hr => (go_simp; done)); (case hp => exact (Reps.one (show Kd.M (Kd.int .i64) _ _ _ 10 [.int .i64 10] from rfl) (Reps.none _ _)))
             intro v1031 w35 ho36 hb hg_ hnew_
             clear hg_ hnew_
             (rw [← Ny1030.out] at ho36)
             have HO1032 := am (Kd.R_lower (Kd.R_new' (Kd.R_new' ho36 (Kd.R_lt HO_4.out)) (Kd.R_lt HO1038.out)) (below_size HB.out))
             replace HO_4 := am (Kd.R_elder' HO_4.out (Kd.R_base ho36) hb)
             replace HO1038 := am (Kd.R_elder' HO1038.out (Kd.R_base ho36) hb)
             replace HB := am (below_step HB.out hb)
             clear hb ho36
             obtain ⟨Ao37, co37, eo37⟩ := Kd.R_slice HO1032.out
             (subst eo37)
             refine hK.out _ _ trivial (fun hHeld => ?_)
             clear hK K
             refine norm_ (a' := ?_) ?_ ?_
             rotate_left
             ·
              show Act.put _ (some 49) _ = _
              simp only [Act.put, sI_, s0_, s1_, i64_w, i32_w]
              rfl
             refine one_ (i := 2) (N := some 50) #[true, true, true, true, true, true, true, true, true, false, false, false] rfl rfl (one_of HT_.out (by kernel_rfl)) (by decide) (fun K hK => ?_)
             refine goes_ Try.func57 (by kernel_rfl) rfl #[.slice Ao31 x4_3.length co31, .slice Ao37 y1030.length co37] (by rfl) rfl rfl (by (try simp only [List.map_toArray, List.map_cons, List.map_nil]); rfl) ?_
             with_reducible refine (zelligeref03_Mul.calls k3 _ _ x4_3 _ _ y1030 t1033 _ ?side1 ?side2 ?side3 ?side4 A26.out).mono ?_
             (case side1 => exact (Kd.R_reads' HO_4.out).2.2)
             (case side2 => exact (Kd.R_reads' HO_4.out).2.1)
             (case side3 => exact (Kd.R_reads' HO1032.out).2.2)
             (case side4 => exact (Kd.R_reads' HO1032.out).2.1)
             rintro e w38 ⟨v1034, rfl, ho0, hb⟩
             refine ⟨_, rfl, ?_⟩
             have HO1035 := am (Kd.R_lower (Kd.R_new' (Kd.R_new' (Kd.R_new' ho0 (Kd.R_lt HO_4.out)) (Kd.R_lt HO1038.out)) (Kd.R_lt HO1032.out)) (below_size HB.out))
             replace HO_4 := am (Kd.R_elder' HO_4.out (Kd.R_base ho0) hb)
             replace HO1038 := am (Kd.R_elder' HO1038.out (Kd.R_base ho0) hb)
             replace HO1032 := am (Kd.R_elder' HO1032.out (Kd.R_base ho0) hb)
             replace HB := am (below_step HB.out hb)
             try clear hb
             try clear ho0
             refine hK.out _ _ trivial (fun hHeld => ?_)
             clear hK K
             refine norm_ (a' := ?_) ?_ ?_
             rotate_left
             ·
              show Act.put _ (some 50) _ = _
              simp only [Act.put, sI_, s0_, s1_, i64_w, i32_w]
              rfl
             exact norm_ (by simp only [putAll, Act.put, sI_, s0_, s1_]) (hCont (.slice Ao37 y1030.length co37, v1034, v1037) _ ⟨(by exact Kd.R_mono HO1032.out (fun _ hk => ⟨hk.2, ⟨hk.1.2, hk.1.1.2⟩⟩)), (by exact Kd.R_mono HO1035.out (fun _ hk => ⟨hk.2, ⟨hk.1.2, hk.1.1.2⟩⟩)), (by exact Kd.R_mono HO1038.out (fun _ hk => ⟨hk.1.2, ⟨hk.2, hk.1.1.2⟩⟩)), (by exact Kd.R_mono HO_4.out (fun _ hk => ⟨hk.1.2, ⟨hk.2, hk.1.1.2⟩⟩)), HB.out⟩)
           rintro ⟨v1031, v1034, v1037⟩ w39 ⟨h0_, h1_, h2_, h3_, h4_⟩
           have n0_ : Aside0 (Kd.R (Kd.int .i64) 3 w39 w.heap.size (fun k_ => some k_ ≠ (v1034 : Value).ownBlock ∧ some k_ ≠ (v1037 : Value).ownBlock ∧ some k_ ≠ (.slice Ao31 x4_3.length co31 : Value).ownBlock) v1031 y1030) := ⟨h0_⟩
           have n1_ : Aside0 (Kd.R (Kd.int .i64) 3 w39 w.heap.size (fun k_ => some k_ ≠ (v1031 : Value).ownBlock ∧ some k_ ≠ (v1037 : Value).ownBlock ∧ some k_ ≠ (.slice Ao31 x4_3.length co31 : Value).ownBlock) v1034 t1033) := ⟨h1_⟩
           have n2_ : Aside0 (Kd.R (Kd.int .i64) 3 w39 w.heap.size (fun k_ => some k_ ≠ (v1031 : Value).ownBlock ∧ some k_ ≠ (v1034 : Value).ownBlock ∧ some k_ ≠ (.slice Ao31 x4_3.length co31 : Value).ownBlock) v1037 y1036) := ⟨h2_⟩
           have n3_ : Aside0 (Kd.R (Kd.int .i64) 3 w39 w.heap.size (fun k_ => some k_ ≠ (v1031 : Value).ownBlock ∧ some k_ ≠ (v1034 : Value).ownBlock ∧ some k_ ≠ (v1037 : Value).ownBlock) (.slice Ao31 x4_3.length co31) x4_3) := ⟨h3_⟩
           have n4_ : Aside0 (Below w.heap.size w w39) := ⟨h4_⟩
           clear HO_4
           clear HB
           clear h0_ h1_ h2_ h3_ h4_
           have HO1032 := n0_
           have HO1035 := n1_
           have HO1038 := n2_
           have HO_4 := n3_
           have HB := n4_
           clear n0_ n1_ n2_ n3_ n4_
           have hHeld := trivial
           obtain ⟨Ao40, co40, eo40⟩ := Kd.R_slice HO1038.out
           (subst eo40)
           refine norm_ (a' := ?_) ?_ ?_
           rotate_left
           ·
            simp only [putAll, Act.put, sI_, s0_, s1_]
            rfl
           refine one_ (i := 9) (N := some 57) #[true, true, true, true, true, true, true, true, true, true, false, false] rfl rfl (one_of HT_.out (by kernel_rfl)) (by decide) (fun K hK => ?_)
           refine goes_ Try.func64 (by kernel_rfl) rfl #[.slice Ao40 y1036.length co40] (by rfl) rfl rfl (by (try simp only [List.map_toArray, List.map_cons, List.map_nil]); rfl) ?_
           with_reducible refine (zelligeref03_Trim_own.calls k3 (fun k_ => some k_ = (.slice Ao40 y1036.length co40 : Value).ownBlock) (.slice Ao40 y1036.length co40) y1036 t1039 w _ ?side1 ?side2 A29.out).mono ?_
           (case side1 => repeat ((with_reducible exact HB.out)))
           (case side2 => exact Kd.R_tight rfl HO1038.out)
           rintro e w41 ⟨v1040, rfl, ho0, hb, hkp⟩
           refine ⟨_, rfl, ?_⟩
           have HO1041 := am (Kd.R_mono (ok' := fun k_ => some k_ ≠ (.slice Ao31 x4_3.length co31 : Value).ownBlock ∧ some k_ ≠ (v1031 : Value).ownBlock ∧ some k_ ≠ (v1034 : Value).ownBlock) ho0 (fun k_ hk_ => ⟨Or.elim hk_ (fun hs_ => fun e_ => (((HO_4.out).1 k_ e_.symm).2.2) hs_) (fun hn_ => (Kd.fresh' (Kd.R_lt HO_4.out) k_ hn_)), Or.elim hk_ (fun hs_ => fun e_ => (((HO1032.out).1 k_ e_.symm).2.1) hs_) (fun hn_ => (Kd.fresh' (Kd.R_lt HO1032.out) k_ hn_)), Or.elim hk_ (fun hs_ => fun e_ => (((HO1035.out).1 k_ e_.symm).2.1) hs_) (fun hn_ => (Kd.fresh' (Kd.R_lt HO1035.out) k_ hn_))⟩))
           replace HO_4 := am (Kd.R_mono (ok' := fun k_ => some k_ ≠ (v1031 : Value).ownBlock ∧ some k_ ≠ (v1034 : Value).ownBlock ∧ some k_ ≠ (v1040 : Value).ownBlock) (Kd.R_keptB (HO_4.out) hkp (fun k_ hk_ hs_ => (hk_.2.2) hs_)) (fun k_ hk_ => ⟨hk_.1.1, hk_.1.2.1, fun e_ => Or.elim (ho0.1 k_ e_.symm) (fun hs_ => hk_.2.1 hs_) (fun hn_ => Nat.not_le.2 hk_.2.2 hn_)⟩))
           replace HO1032 := am (Kd.R_mono (ok' := fun k_ => some k_ ≠ (.slice Ao31 x4_3.length co31 : Value).ownBlock ∧ some k_ ≠ (v1034 : Value).ownBlock ∧ some k_ ≠ (v1040 : Value).ownBlock) (Kd.R_keptB (HO1032.out) hkp (fun k_ hk_ hs_ => (hk_.2.1) hs_)) (fun k_ hk_ => ⟨hk_.1.2.2, hk_.1.1, fun e_ => Or.elim (ho0.1 k_ e_.symm) (fun hs_ => hk_.2.1 hs_) (fun hn_ => Nat.not_le.2 hk_.2.2 hn_)⟩))
           replace HO1035 := am (Kd.R_mono (ok' := fun k_ => some k_ ≠ (.slice Ao31 x4_3.length co31 : Value).ownBlock ∧ some k_ ≠ (v1031 : Value).ownBlock ∧ some k_ ≠ (v1040 : Value).ownBlock) (Kd.R_keptB (HO1035.out) hkp (fun k_ hk_ hs_ => (hk_.2.1) hs_)) (fun k_ hk_ => ⟨hk_.1.2.2, hk_.1.1, fun e_ => Or.elim (ho0.1 k_ e_.symm) (fun hs_ => hk_.2.1 hs_) (fun hn_ => Nat.not_le.2 hk_.2.2 hn_)⟩))
           replace HB := am (hb)
           clear HO1038
           try clear hb
           try clear hkp
           (try clear ho0)
           obtain ⟨Ao42, co42, eo42⟩ := Kd.R_slice HO1035.out
           (subst eo42)
           obtain ⟨Ao43, co43, eo43⟩ := Kd.R_slice HO1041.out
           (subst eo43)
           refine hK.out _ _ trivial (fun hHeld => ?_)
           clear hK K
           refine norm_ (a' := ?_) ?_ ?_
           rotate_left
           ·
            show Act.put _ (some 57) _ = _
            simp only [Act.put, sI_, s0_, s1_, i64_w, i32_w]
            rfl
           refine one_ (i := 10) (N := some 58) #[true, true, true, true, true, true, true, true, true, true, true, false] rfl rfl (one_of HT_.out (by kernel_rfl)) (by decide) (fun K hK => ?_)
           refine goes_ Try.func53 (by kernel_rfl) rfl #[.slice Ao42 t1033.length co42, .slice Ao43 t1039.length co43] (by rfl) rfl rfl (by (try simp only [List.map_toArray, List.map_cons, List.map_nil]); rfl) ?_
           with_reducible refine (zelligeref03_Add.calls k3 _ _ t1033 _ _ t1039 t1042 _ ?side1 ?side2 ?side3 ?side4 A30.out).mono ?_
           (case side1 => exact (Kd.R_reads' HO1035.out).2.2)
           (case side2 => exact (Kd.R_reads' HO1035.out).2.1)
           (case side3 => exact (Kd.R_reads' HO1041.out).2.2)
           (case side4 => exact (Kd.R_reads' HO1041.out).2.1)
           rintro e w44 ⟨v1043, rfl, ho0, hb⟩
           refine ⟨_, rfl, ?_⟩
           have HO1044 := am (Kd.R_lower (Kd.R_new' (Kd.R_new' (Kd.R_new' (Kd.R_new' ho0 (Kd.R_lt HO_4.out)) (Kd.R_lt HO1032.out)) (Kd.R_lt HO1035.out)) (Kd.R_lt HO1041.out)) (below_size HB.out))
           replace HO_4 := am (Kd.R_elder' HO_4.out (Kd.R_base ho0) hb)
           replace HO1032 := am (Kd.R_elder' HO1032.out (Kd.R_base ho0) hb)
           replace HO1035 := am (Kd.R_elder' HO1035.out (Kd.R_base ho0) hb)
           replace HO1041 := am (Kd.R_elder' HO1041.out (Kd.R_base ho0) hb)
           replace HB := am (below_step HB.out hb)
           try clear hb
           try clear ho0
           refine hK.out _ _ trivial (fun hHeld => ?_)
           clear hK K
           refine norm_ (a' := ?_) ?_ ?_
           rotate_left
           ·
            show Act.put _ (some 58) _ = _
            simp only [Act.put, sI_, s0_, s1_, i64_w, i32_w]
            rfl
           refine pure_ (i := 11) (N := some 4) (v := ?_) (a' := ?_) #[true, true, true, true, true, true, true, true, true, true, true, true] rfl rfl (any_of HT_.out (by kernel_rfl)) (fun _ _ _ h => h) (Or.inl ⟨by rfl, ?_⟩) ?_ ?_
           rotate_left
           ·
            intro w'
            go_simp
            with_reducible rfl
           rotate_left
           ·
            simp only [Act.put, sI_, s0_, s1_, i64_w, i32_w]
            rfl
           refine done_ (done_of HT_.out (by kernel_rfl)) ?_
           try go_wp2
           go_roundg k3
           case measure => have := HK1.out; have := HJ13.out; have := HK3.out; omega
           case rel => exact ⟨(t1042), (wrap64 (x6_3 + 1)), (by rfl), H', ⟨by have := HK1.out; have := HJ13.out; have := HK3.out; omega⟩, ⟨by exact Kd.R_mono HO1044.out (fun _ hk => trivial)⟩, ⟨by with_reducible exact HB.out⟩⟩
          ·
           rw [if_neg c25] at H
           have c25b0 : decide (x6_3 < (a0.size : Int)) = false := decide_eq_false c25
           clear c25
           simp only [Option.some.injEq, Prod.mk.injEq] at H
           obtain ⟨rfl, rfl⟩ := H
           go_wp2
           go_ret2
           exact ⟨_, by rfl, by exact HO_4.out, by with_reducible exact HB.out⟩

end Go.Proofs.Ytmfmojldebhboaa.ZWhole
