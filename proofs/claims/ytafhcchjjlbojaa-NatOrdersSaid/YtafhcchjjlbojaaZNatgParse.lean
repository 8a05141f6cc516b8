-- printed by zprint.py, a program of this session's
import Derived.Test.YtafhcchjjlbojaaZNat0
import Derived.Test.YtafhcchjjlbojaaZNatgCore
namespace Go.Proofs.Ytafhcchjjlbojaa.ZNat
open Go.RowKit Go.Proofs.YtafhcchjjlbojaaW.PrintWords Go.Proofs.YtafhcchjjlbojaaW.PrintLast Go.Proofs.YtafhcchjjlbojaaW.PrintMore
set_option linter.unusedVariables false
set_option linter.unusedSimpArgs false

/-! ### nat_Parse: function 31 -/
mutual
def nat_Parse.l0 : Nat → ByteArray → List Int → Int → Int → Option (List Int × Int)
  | 0, _, _, _, _ => none
  | k + 1, x0, x11, x12, x13 => if x13 < x12 then (if 0 ≤ x13 then (if x13 < (x11.length : Int) then (if (rd x11 x13) < 48 then (some (([] : List Int), 4)) else (if (rd x11 x13) > 57 then (some (([] : List Int), 4)) else (nat_Parse.l0 k x0 x11 x12 (wrap64 (x13 + 1))))) else (none)) else (none)) else (if x0.toList = ([] : List UInt8) then (nat_Parse.j1 k x0 true) else (if 0 < (x0.size : Int) then (if (bt x0 0) = 48 then (nat_Parse.j1 k x0 (decide ((x0.size : Int) > 1))) else (nat_Parse.j1 k x0 false)) else (none)))
def nat_Parse.j1 : Nat → ByteArray → Bool → Option (List Int × Int)
  | 0, _, _ => none
  | k + 1, x0, x24 => if x24 = true then (some (([] : List Int), 4)) else (if (x0.size : Int) > 2000 then (some (([] : List Int), 5)) else (nat_Parse.l1 k x0 ([] : List Int) (x0.size : Int) 0))
def nat_Parse.l1 : Nat → ByteArray → List Int → Int → Int → Option (List Int × Int)
  | 0, _, _, _, _ => none
  | k + 1, x0, x6, x42, x43 => if x43 < x42 then (if 0 ≤ x43 then (if x43 < (x0.size : Int) then (nat_Parse.l2 k x0 x6 (((bt x0 x43) - 48) % 256) x42 x43 (x6.length : Int) 0) else (none)) else (none)) else (some (x6, 0))
def nat_Parse.l2 : Nat → ByteArray → List Int → Int → Int → Int → Int → Int → Option (List Int × Int)
  | 0, _, _, _, _, _, _, _ => none
  | k + 1, x0, x6, x8, x42, x43, x52, x53 => if x53 < x52 then (if 0 ≤ x53 then (if x53 < (x6.length : Int) then (nat_Parse.l2 k x0 (x6.set (x53 : Int).toNat ((IntKind.u64.wrap (x8 + (IntKind.u64.wrap ((IntKind.u64.wrap (rd x6 x53)) * 10)))) % 4294967296)) ((IntKind.u64.wrap (x8 + (IntKind.u64.wrap ((IntKind.u64.wrap (rd x6 x53)) * 10)))) / 4294967296) x42 x43 x52 (wrap64 (x53 + 1))) else (none)) else (none)) else (if x8 > 0 then (if x6.length < 35184372088832 then (nat_Parse.l1 k x0 (x6 ++ [(x8) % 4294967296]) x42 (wrap64 (x43 + 1))) else (none)) else (nat_Parse.l1 k x0 x6 x42 (wrap64 (x43 + 1))))
end
def nat_Parse.f (k : Nat) (a0 : ByteArray) : Option (List Int × Int) := if a0.size ≤ 9223372036854775807 then ((some (bytesOf a0 : List Int)).bind fun y282 => (nat_Parse.l0 k a0 y282 (y282.length : Int) 0)) else (none)
theorem nat_Parse.mono_l : ∀ k, (∀ y0 y1 y2 y3, LeO (nat_Parse.l0 k y0 y1 y2 y3) (nat_Parse.l0 (k + 1) y0 y1 y2 y3)) ∧ (∀ y0 y1, LeO (nat_Parse.j1 k y0 y1) (nat_Parse.j1 (k + 1) y0 y1)) ∧ (∀ y0 y1 y2 y3, LeO (nat_Parse.l1 k y0 y1 y2 y3) (nat_Parse.l1 (k + 1) y0 y1 y2 y3)) ∧ (∀ y0 y1 y2 y3 y4 y5 y6, LeO (nat_Parse.l2 k y0 y1 y2 y3 y4 y5 y6) (nat_Parse.l2 (k + 1) y0 y1 y2 y3 y4 y5 y6))
  | 0 => ⟨fun _ _ _ _ r h => by simp [nat_Parse.l0] at h, fun _ _ r h => by simp [nat_Parse.j1] at h, fun _ _ _ _ r h => by simp [nat_Parse.l1] at h, fun _ _ _ _ _ _ _ r h => by simp [nat_Parse.l2] at h⟩
  | k + 1 => by
    obtain ⟨ih0, ih1, ih2, ih3⟩ := nat_Parse.mono_l k
    refine ⟨?_, ?_, ?_, ?_⟩
    · intro y0 y1 y2 y3
      unfold nat_Parse.l0
      repeat' first
      | (with_reducible exact ih0 _ _ _ _)
      | (with_reducible exact ih1 _ _)
      | (with_reducible exact LeO.refl _)
      | (with_reducible refine LeO.ite ?_ ?_)
    · intro y0 y1
      unfold nat_Parse.j1
      repeat' first
      | (with_reducible exact ih2 _ _ _ _)
      | (with_reducible exact LeO.refl _)
      | (with_reducible refine LeO.ite ?_ ?_)
    · intro y0 y1 y2 y3
      unfold nat_Parse.l1
      repeat' first
      | (with_reducible exact ih3 _ _ _ _ _ _ _)
      | (with_reducible exact LeO.refl _)
      | (with_reducible refine LeO.ite ?_ ?_)
    · intro y0 y1 y2 y3 y4 y5 y6
      unfold nat_Parse.l2
      repeat' first
      | (with_reducible exact ih2 _ _ _ _)
      | (with_reducible exact ih3 _ _ _ _ _ _ _)
      | (with_reducible exact LeO.refl _)
      | (with_reducible refine LeO.ite ?_ ?_)
theorem nat_Parse.mono : ∀ a0 k, LeO (nat_Parse.f k a0) (nat_Parse.f (k + 1) a0) := by
  intro a0 k
  obtain ⟨ih0, ih1, ih2, ih3⟩ := nat_Parse.mono_l k
  unfold nat_Parse.f
  repeat' first
      | (with_reducible exact ih0 _ _ _ _)
      | (with_reducible exact LeO.refl _)
      | (with_reducible refine LeO.ite ?_ ?_)
      | (with_reducible refine LeO.bind ?_ (fun _ => ?_))
set_option maxHeartbeats 8000000 in
set_option maxRecDepth 100000 in
theorem nat_Parse.calls (k : Nat) (a0 : ByteArray) (r1 : List Int) (r2 : Int) (w : World) (h : nat_Parse.f k a0 = some (r1, r2)) :
    Calls Try.prog 31 #[.string a0] w fun e w' => ∃ v0_ : Value, e = .returned (.tuple #[v0_, .int .i64 r2]) ∧ Kd.R (Kd.int .u32) 53 w' w.heap.size (fun _ => True) v0_ r1 ∧ Below w.heap.size w w' := by
  have HB := Aside0.mk (Below.refl w.heap.size w)
  have H : (if a0.size ≤ 9223372036854775807 then ((some (bytesOf a0 : List Int)).bind fun y282 => (nat_Parse.l0 k a0 y282 (y282.length : Int) 0)) else (none)) = some (r1, r2) := h
  clear h
  by_cases c2 : a0.size ≤ 9223372036854775807
  · rw [if_pos c2] at H
    have c2b0 := eq_true c2
    have c2b1 : decide (a0.size ≤ 9223372036854775807) = true := decide_eq_true c2
    try have c2b2 : (9223372036854775807 < a0.size) = False := eq_false (Nat.not_lt.2 c2)
    clear c2
    obtain ⟨y282, hy282⟩ : ∃ y_ : List Int, y_ = (bytesOf a0) := ⟨_, rfl⟩
    replace H : (nat_Parse.l0 k a0 y282 (y282.length : Int) 0) = some (r1, r2) := by (have H2_ := (Option.bind_some _ _).symm.trans H; rw [hy282]; with_reducible exact H2_)
    have Ny282 := Aside0.mk hy282
    clear hy282
    have H' := Aside0.mk H
    clear H
    go_enter Try.func31, Try.ntmps31
    go_wp2_with (((with_reducible refine gate_dst (N := 11) rfl ?_); (try (refine gate_guard (by rfl) ?_; dsimp only)); refine Kd.V_bytes _ 5 rfl (N := 11) rfl 9 89 _ rfl a0 rfl Try.underlying9 Try.underlying89 Try.underlying5 (of_decide_eq_true (by (with_reducible assumption))) (Below.refl _ _) (Nat.le_refl _) ?_; intro v283 w3 ho4 hb hg_ hnew_; clear hg_ hnew_; (rw [← Ny282.out] at ho4); have n0_ := Aside0.mk (Kd.V_lower (Kd.V_mono (ok' := fun k_ => True) ho4 (fun k_ hk_ => trivial)) (below_size (by with_reducible exact HB.out))); have n1_ := Aside0.mk (below_step (by with_reducible exact HB.out) hb); clear HB; have HO284 := n0_; have HB := n1_; clear n0_ n1_; clear hb ho4; obtain ⟨Ao5, co5, eo5⟩ := Kd.V_slice HO284.out; subst eo5))
    go_loopg [13] k (fun kq v13 w' => ∃ (x13_1 : Int), v13 = .int .i64 x13_1 ∧ Aside0 (nat_Parse.l0 kq a0 y282 (y282.length : Int) x13_1 = some (r1, r2)) ∧ Aside0 (kq ≤ k) ∧ Aside0 (Kd.V (Kd.int .u8) 5 w' w.heap.size (fun _ => True) (.slice Ao5 y282.length co5) y282) ∧ Aside0 (Below w.heap.size w w'))
    case atStart => exact ⟨(0), (by rfl), H', ⟨Nat.le_refl _⟩, ⟨by exact HO284.out⟩, ⟨by with_reducible exact HB.out⟩⟩
    case round =>
      clear H'
      try clear c2b0
      try clear c2b1
      try clear c2b2
      obtain ⟨x13_1, rfl, HA, HK1, HO_11, HB⟩ := hrel
      cases gk with
      | zero => exact absurd HA.out (by simp [nat_Parse.l0])
      | succ k1 =>
        have H := HA.out
        clear HA
        simp only [nat_Parse.l0] at H
        by_cases c6 : x13_1 < (y282.length : Int)
        · rw [if_pos c6] at H
          have c6b0 : decide (x13_1 < (y282.length : Int)) = true := decide_eq_true c6
          clear c6
          by_cases c7 : 0 ≤ x13_1
          · rw [if_pos c7] at H
            have c7b0 : decide (0 ≤ x13_1) = true := decide_eq_true c7
            clear c7
            by_cases c8 : x13_1 < (y282.length : Int)
            · rw [if_pos c8] at H
              have c8b0 : decide (x13_1 < (y282.length : Int)) = true := decide_eq_true c8
              clear c8
              by_cases c9 : (rd y282 x13_1) < 48
              · rw [if_pos c9] at H
                have c9b0 : decide ((rd y282 x13_1) < 48) = true := decide_eq_true c9
                clear c9
                simp only [Option.some.injEq, Prod.mk.injEq] at H
                obtain ⟨rfl, rfl⟩ := H
                have p285 : 0 ≤ (x13_1 : Int) := of_decide_eq_true (by (with_reducible assumption))
                have q285 : x13_1 < (y282.length : Int) := of_decide_eq_true (by (with_reducible assumption))
                obtain ⟨ad285, e285, hx285_0⟩ := Kd.at_int (Kd.V_reads' HO_11.out).2.2 x13_1 p285 q285
                cases e285
                replace p285 := eq_true p285
                replace q285 := eq_true q285
                go_wp2
                go_ret2
                exact ⟨_, by rfl, by exact Kd.R_nil _ _ _ _ _, by with_reducible exact HB.out⟩
              · rw [if_neg c9] at H
                have c9b0 : decide ((rd y282 x13_1) < 48) = false := decide_eq_false c9
                clear c9
                by_cases c10 : (rd y282 x13_1) > 57
                · rw [if_pos c10] at H
                  have c10b0 : decide (57 < (rd y282 x13_1)) = true := decide_eq_true c10
                  clear c10
                  simp only [Option.some.injEq, Prod.mk.injEq] at H
                  obtain ⟨rfl, rfl⟩ := H
                  have p285 : 0 ≤ (x13_1 : Int) := of_decide_eq_true (by (with_reducible assumption))
                  have q285 : x13_1 < (y282.length : Int) := of_decide_eq_true (by (with_reducible assumption))
                  obtain ⟨ad285, e285, hx285_0⟩ := Kd.at_int (Kd.V_reads' HO_11.out).2.2 x13_1 p285 q285
                  cases e285
                  replace p285 := eq_true p285
                  replace q285 := eq_true q285
                  go_wp2
                  go_ret2
                  exact ⟨_, by rfl, by exact Kd.R_nil _ _ _ _ _, by with_reducible exact HB.out⟩
                · rw [if_neg c10] at H
                  have c10b0 : decide (57 < (rd y282 x13_1)) = false := decide_eq_false c10
                  clear c10
                  have H' := Aside0.mk H
                  clear H
                  have p285 : 0 ≤ (x13_1 : Int) := of_decide_eq_true (by (with_reducible assumption))
                  have q285 : x13_1 < (y282.length : Int) := of_decide_eq_true (by (with_reducible assumption))
                  obtain ⟨ad285, e285, hx285_0⟩ := Kd.at_int (Kd.V_reads' HO_11.out).2.2 x13_1 p285 q285
                  cases e285
                  replace p285 := eq_true p285
                  replace q285 := eq_true q285
                  go_wp2
                  go_roundg k1
                  case measure => have := HK1.out; omega
                  case rel => exact ⟨(wrap64 (x13_1 + 1)), (by rfl), H', ⟨by have := HK1.out; omega⟩, ⟨by exact HO_11.out⟩, ⟨by with_reducible exact HB.out⟩⟩
            · rw [if_neg c8] at H
              exact absurd H (by simp)
          · rw [if_neg c7] at H
            exact absurd H (by simp)
        · rw [if_neg c6] at H
          have c6b0 : decide (x13_1 < (y282.length : Int)) = false := decide_eq_false c6
          clear c6
          have HC11 := Aside0.mk H
          clear H
          go_upto_region 7 with (fail)
          go_cut [24] (fun v24 wc => ∃ (kq : Nat) (x24_10 : Bool), v24 = .bool x24_10 ∧ Aside0 (nat_Parse.j1 kq a0 x24_10 = some (r1, r2)) ∧ Aside0 (kq ≤ k1) ∧ Aside0 (Below w.heap.size w wc))
          case first =>
            have H := HC11.out
            clear HC11
            by_cases c12 : a0.toList = ([] : List UInt8)
            · rw [if_pos c12] at H
              have c12b0 : (a0.toList == ([] : List UInt8)) = true := beq_iff_eq.mpr c12
              have c12b1 : (a0.toList != ([] : List UInt8)) = false := bne_eq_false_iff_eq.mpr c12
              clear c12
              (skip)
              have H' := Aside0.mk H
              clear H
              go_wp2
              go_meet
              case rel => exact ⟨_, (true), (by rfl), H', ⟨by have := HK1.out; omega⟩, ⟨by with_reducible exact HB.out⟩⟩
            · rw [if_neg c12] at H
              have c12b0 : (a0.toList == ([] : List UInt8)) = false := beq_eq_false_iff_ne.mpr c12
              have c12b1 : (a0.toList != ([] : List UInt8)) = true := bne_iff_ne.mpr c12
              (skip)
              by_cases c13 : 0 < (a0.size : Int)
              · rw [if_pos c13] at H
                have c13b0 : decide (0 < (a0.size : Int)) = true := decide_eq_true c13
                have c13b1 : decide (0 < a0.size) = true := decide_eq_true (by omega)
                clear c13
                by_cases c15 : (bt a0 0) = 48
                · rw [if_pos c15] at H
                  have c15b0 : ((bt a0 0) == 48) = true := beq_iff_eq.mpr c15
                  have c15b1 : ((bt a0 0) != 48) = false := bne_eq_false_iff_eq.mpr c15
                  clear c15
                  have H' := Aside0.mk H
                  clear H
                  have p14 : 0 ≤ (0 : Int) := (by omega)
                  have q14 : 0 < a0.size := (by have : (0 : Int) < (a0.size : Int) := of_decide_eq_true (by (with_reducible assumption)); omega)
                  have hx14 : ∀ h : 0 < a0.size, ((a0[0]'h).toNat : Int) = bt a0 0 := bt_at a0 0
                  clear p14
                  have qi14 : (0 < (a0.size : Int)) = True := eq_true (of_decide_eq_true (by (with_reducible assumption)))
                  replace q14 := eq_true q14
                  go_wp2
                  go_meet
                  case rel => exact ⟨_, (decide ((a0.size : Int) > 1)), (by rfl), H', ⟨by have := HK1.out; omega⟩, ⟨by with_reducible exact HB.out⟩⟩
                · rw [if_neg c15] at H
                  have c15b0 : ((bt a0 0) == 48) = false := beq_eq_false_iff_ne.mpr c15
                  have c15b1 : ((bt a0 0) != 48) = true := bne_iff_ne.mpr c15
                  have H' := Aside0.mk H
                  clear H
                  have p14 : 0 ≤ (0 : Int) := (by omega)
                  have q14 : 0 < a0.size := (by have : (0 : Int) < (a0.size : Int) := of_decide_eq_true (by (with_reducible assumption)); omega)
                  have hx14 : ∀ h : 0 < a0.size, ((a0[0]'h).toNat : Int) = bt a0 0 := bt_at a0 0
                  clear p14
                  have qi14 : (0 < (a0.size : Int)) = True := eq_true (of_decide_eq_true (by (with_reducible assumption)))
                  replace q14 := eq_true q14
                  go_wp2
                  go_meet
                  case rel => exact ⟨_, (false), (by rfl), H', ⟨by have := HK1.out; omega⟩, ⟨by with_reducible exact HB.out⟩⟩
              · rw [if_neg c13] at H
                exact absurd H (by simp)
          case rest =>
            clear HC11
            try clear c6b0
            obtain ⟨kq, x24_10, rfl, HA, HJ10, HB⟩ := hcut
            cases kq with
            | zero => exact absurd HA.out (by simp [nat_Parse.j1])
            | succ kj10 =>
              have H := HA.out
              clear HA
              simp only [nat_Parse.j1] at H
              by_cases c16 : x24_10 = true
              · subst c16
                rw [if_pos rfl] at H
                simp only [Option.some.injEq, Prod.mk.injEq] at H
                obtain ⟨rfl, rfl⟩ := H
                go_wp2
                go_ret2
                exact ⟨_, by rfl, by exact Kd.R_nil _ _ _ _ _, by with_reducible exact HB.out⟩
              · replace c16 := Bool.eq_false_iff.mpr c16
                subst c16
                rw [if_neg (show ¬ (false = true) by decide)] at H
                by_cases c17 : (a0.size : Int) > 2000
                · rw [if_pos c17] at H
                  have c17b0 : decide (2000 < (a0.size : Int)) = true := decide_eq_true c17
                  have c17b1 : decide (2000 < a0.size) = true := decide_eq_true (by omega)
                  clear c17
                  simp only [Option.some.injEq, Prod.mk.injEq] at H
                  obtain ⟨rfl, rfl⟩ := H
                  go_wp2
                  go_ret2
                  exact ⟨_, by rfl, by exact Kd.R_nil _ _ _ _ _, by with_reducible exact HB.out⟩
                · rw [if_neg c17] at H
                  have c17b0 : decide (2000 < (a0.size : Int)) = false := decide_eq_false c17
                  have c17b1 : decide (2000 < a0.size) = false := decide_eq_false (by omega)
                  clear c17
                  have H' := Aside0.mk H
                  clear H
                  go_wp2
                  go_loopg [6, 43] kj10 (fun kq v6 v43 w' => ∃ (x6_3 : List Int) (x43_3 : Int), v43 = .int .i64 x43_3 ∧ Aside0 (nat_Parse.l1 kq a0 x6_3 (a0.size : Int) x43_3 = some (r1, r2)) ∧ Aside0 (kq ≤ kj10) ∧ Aside0 (Kd.R (Kd.int .u32) 53 w' w.heap.size (fun _ => True) v6 x6_3) ∧ Aside0 (Below w.heap.size w w'))
                  case atStart => exact ⟨(([] : List Int)), (0), (by rfl), H', ⟨Nat.le_refl _⟩, ⟨by exact Kd.R_nil _ _ _ _ _⟩, ⟨by with_reducible exact HB.out⟩⟩
                  case round =>
                    clear H'
                    try clear c17b0
                    try clear c17b1
                    obtain ⟨x6_3, x43_3, rfl, HA, HK3, HO_6, HB⟩ := hrel
                    cases gk with
                    | zero => exact absurd HA.out (by simp [nat_Parse.l1])
                    | succ k3 =>
                      have H := HA.out
                      clear HA
                      simp only [nat_Parse.l1] at H
                      by_cases c18 : x43_3 < (a0.size : Int)
                      · rw [if_pos c18] at H
                        have c18b0 : decide (x43_3 < (a0.size : Int)) = true := decide_eq_true c18
                        clear c18
                        by_cases c19 : 0 ≤ x43_3
                        · rw [if_pos c19] at H
                          have c19b0 : decide (0 ≤ x43_3) = true := decide_eq_true c19
                          clear c19
                          by_cases c20 : x43_3 < (a0.size : Int)
                          · rw [if_pos c20] at H
                            have c20b0 : decide (x43_3 < (a0.size : Int)) = true := decide_eq_true c20
                            clear c20
                            have H' := Aside0.mk H
                            clear H
                            have p21 : 0 ≤ (x43_3 : Int) := of_decide_eq_true (by (with_reducible assumption))
                            have q21 : x43_3 < (a0.size : Int) := of_decide_eq_true (by (with_reducible assumption))
                            have hx21 := bt_at a0 x43_3
                            replace p21 := eq_true p21
                            replace q21 := eq_true q21
                            obtain ⟨Ao22, co22, eo22⟩ := Kd.R_slice HO_6.out
                            subst eo22
                            go_wp2
                            go_loopg [8, 53] k3 (fun kq v8 v53 w' => ∃ (x6_4 : List Int) (x8_4 : Int) (x53_4 : Int), v8 = .int .u64 x8_4 ∧ v53 = .int .i64 x53_4 ∧ Aside0 (nat_Parse.l2 kq a0 x6_4 x8_4 (a0.size : Int) x43_3 (x6_3.length : Int) x53_4 = some (r1, r2)) ∧ Aside0 (kq ≤ k3) ∧ Aside0 (Kd.R (Kd.int .u32) 53 w' w.heap.size (fun _ => True) (.slice Ao22 x6_3.length co22) x6_4) ∧ Aside0 (Below w.heap.size w w'))
                            case atStart => exact ⟨(x6_3), (((bt a0 x43_3) - 48) % 256), (0), (by rfl), (by rfl), H', ⟨Nat.le_refl _⟩, ⟨by exact HO_6.out⟩, ⟨by with_reducible exact HB.out⟩⟩
                            case round =>
                              clear H'
                              try clear c18b0
                              try clear c19b0
                              try clear c20b0
                              try clear p21
                              try clear q21
                              try clear hx21
                              obtain ⟨x6_4, x8_4, x53_4, rfl, rfl, HA, HK4, HO_6, HB⟩ := hrel
                              have hl6_4 := (Kd.R_reads' HO_6.out).1
                              rw [hl6_4] at HO_6
                              (try simp only [hl6_4])
                              cases gk with
                              | zero => exact absurd HA.out (by simp [nat_Parse.l2])
                              | succ k4 =>
                                have H := HA.out
                                clear HA
                                simp only [nat_Parse.l2] at H
                                by_cases c23 : x53_4 < (x6_3.length : Int)
                                · rw [if_pos c23] at H
                                  have c23b0 : decide (x53_4 < (x6_3.length : Int)) = true := decide_eq_true c23
                                  (try (have c23h0hl6_4 := c23b0; rw [hl6_4] at c23h0hl6_4))
                                  clear c23
                                  by_cases c24 : 0 ≤ x53_4
                                  · rw [if_pos c24] at H
                                    have c24b0 : decide (0 ≤ x53_4) = true := decide_eq_true c24
                                    clear c24
                                    by_cases c25 : x53_4 < (x6_4.length : Int)
                                    · rw [if_pos c25] at H
                                      have c25b0 : decide (x53_4 < (x6_4.length : Int)) = true := decide_eq_true c25
                                      clear c25
                                      obtain ⟨y287, hy287⟩ : ∃ y_ : List Int, y_ = (x6_4.set (x53_4 : Int).toNat ((IntKind.u64.wrap (x8_4 + (IntKind.u64.wrap ((IntKind.u64.wrap (rd x6_4 x53_4)) * 10)))) % 4294967296)) := ⟨_, rfl⟩
                                      replace H : (nat_Parse.l2 k4 a0 y287 ((IntKind.u64.wrap (x8_4 + (IntKind.u64.wrap ((IntKind.u64.wrap (rd x6_4 x53_4)) * 10)))) / 4294967296) (a0.size : Int) x43_3 (x6_3.length : Int) (wrap64 (x53_4 + 1))) = some (r1, r2) := by (rw [hy287]; with_reducible exact H)
                                      have Ny287 := Aside0.mk hy287
                                      clear hy287
                                      have H' := Aside0.mk H
                                      clear H
                                      have p286 : 0 ≤ (x53_4 : Int) := of_decide_eq_true (by (with_reducible assumption))
                                      have q286 : x53_4 < (x6_4.length : Int) := of_decide_eq_true (by (with_reducible assumption))
                                      obtain ⟨ad286, e286, hx286_0⟩ := Kd.at_int (Kd.R_reads' HO_6.out).2.2 x53_4 p286 q286
                                      cases e286
                                      replace p286 := eq_true p286
                                      replace q286 := eq_true q286
                                      have p26 : 0 ≤ (x53_4 : Int) := of_decide_eq_true (by (with_reducible assumption))
                                      have q26 : (x53_4 : Int) < ((x6_4.length : Int) : Int) := of_decide_eq_true (by (with_reducible assumption))
                                      obtain ⟨go26, co26, eo26, gb26, gl26, cl26, HG26⟩ := Kd.R_form HO_6.out (by omega)
                                      (cases eo26)
                                      have GB26 := Aside0.mk gb26
                                      have GG26 := Aside0.mk HG26
                                      clear gb26 gl26 HG26
                                      (simp only [add_plain] at hx286_0)
                                      obtain ⟨hx26_0, hf26_0⟩ := Kd.R_celln 0 HO_6.out (x53_4 : Int) p26 q26
                                      replace p26 := eq_true p26
                                      replace q26 := eq_true q26
                                      have HP27 := Kd.R_putg HO_6.out (x53_4 : Int) ((IntKind.u64.wrap (x8_4 + (IntKind.u64.wrap ((IntKind.u64.wrap (rd x6_4 x53_4)) * 10)))) % 4294967296)
                                      go_wp2_with (((with_reducible refine gate_store (t := 53) (p := 68) rfl ?_); refine store_event (t := 53) (p := 68) (v := ?vo_w28) (w1 := (wr.setCell ⟨go26, (x53_4 : Int).toNat, none⟩ (.int .u32 ((IntKind.u64.wrap (x8_4 + (IntKind.u64.wrap ((IntKind.u64.wrap (rd x6_4 x53_4)) * 10)))) % 4294967296)))) ?hg ?ho ?hn ?hr ?_; (case ho => rfl); (case hg => rfl); (case hn => rfl); (case hr => (go_simp; done)); intro w28 hw; have hg : wr.grownBy w28 (some go26) := (by rw [hw]; exact HP27.2); have hp_ : Kd.R (Kd.int .u32) 53 w28 w.heap.size (fun _ => True) (.slice (some ⟨go26, 0, none⟩) x6_4.length co22) y287 := (by rw [hw, Ny287.out]; exact HP27.1); clear HP27; have n0_ := Aside0.mk (hp_); have n1_ := Aside0.mk ((by rw [hw]; exact below_set (HB.out) GB26.out : Below w.heap.size w w28)); clear HO_6; clear HB; have HO_6 := n0_; have HB := n1_; clear n0_ n1_; clear hg hw hp_))
                                      (try simp only [← hl6_4])
                                      go_roundg k4
                                      case measure => have := HK1.out; have := HJ10.out; have := HK3.out; have := HK4.out; omega
                                      case rel => exact ⟨(y287), ((IntKind.u64.wrap (x8_4 + (IntKind.u64.wrap ((IntKind.u64.wrap (rd x6_4 x53_4)) * 10)))) / 4294967296), (wrap64 (x53_4 + 1)), (by rfl), (by rfl), H', ⟨by have := HK1.out; have := HJ10.out; have := HK3.out; have := HK4.out; omega⟩, ⟨by (try simp only [hl6_4]); exact HO_6.out⟩, ⟨by with_reducible exact HB.out⟩⟩
                                    · rw [if_neg c25] at H
                                      exact absurd H (by simp)
                                  · rw [if_neg c24] at H
                                    exact absurd H (by simp)
                                · rw [if_neg c23] at H
                                  have c23b0 : decide (x53_4 < (x6_3.length : Int)) = false := decide_eq_false c23
                                  (try (have c23h0hl6_4 := c23b0; rw [hl6_4] at c23h0hl6_4))
                                  clear c23
                                  by_cases c29 : x8_4 > 0
                                  · rw [if_pos c29] at H
                                    have c29b0 : decide (0 < x8_4) = true := decide_eq_true c29
                                    clear c29
                                    by_cases c30 : x6_4.length < 35184372088832
                                    · rw [if_pos c30] at H
                                      have LMc30 := Aside0.mk c30
                                      clear c30
                                      obtain ⟨y288, hy288⟩ : ∃ y_ : List Int, y_ = (x6_4 ++ [(x8_4) % 4294967296]) := ⟨_, rfl⟩
                                      replace H : (nat_Parse.l1 k4 a0 y288 (a0.size : Int) (wrap64 (x43_3 + 1))) = some (r1, r2) := by (rw [hy288]; with_reducible exact H)
                                      have Ny288 := Aside0.mk hy288
                                      clear hy288
                                      have H' := Aside0.mk H
                                      clear H
                                      go_wp2_with (((with_reducible refine gate_builtin (b := .append) (xs := #[.tmp 74, .tmp 77]) rfl ?_); (try (refine gate_guard (by rfl) ?_; dsimp only)); at_builtin; refine Kd.R_append (Kd.int .u32) (w0 := w) w.heap.size rfl (.tmp 74) (.tmp 77) 36 53 (.int .u32 0) 4 rfl Try.underlying36 info53 rfl (by decide) (by omega) (.slice Ao22 x6_4.length co22) x6_4 ((x8_4) % 4294967296) [.int .u32 ((x8_4) % 4294967296)] (fun _ => True) (fun _ => False) rfl rfl ?aP (fun _ hk => hk.elim) ?aF ?aO ?aB ?aS ?aL ?_; (case aP => exact rfl); (case aB => exact (by with_reducible exact HB.out)); (case aF => exact (fun _ _ => trivial)); (case aO => exact (by exact HO_6.out)); (case aS => exact (below_size (by with_reducible exact HB.out))); (case aL => have := LMc30.out; omega); intro v289 w31 ho hb hg hat; rw [← Ny288.out] at ho; have n0_ := Aside0.mk (hb); have n1_ := Aside0.mk (ho); clear HB; clear HO_6; have HB := n0_; have HO290 := n1_; clear n0_ n1_; clear ho hb hg hat))
                                      (try simp only [← hl6_4])
                                      go_roundg k4
                                      case measure => have := HK1.out; have := HJ10.out; have := HK3.out; have := HK4.out; omega
                                      case rel => exact ⟨(y288), (wrap64 (x43_3 + 1)), (by rfl), H', ⟨by have := HK1.out; have := HJ10.out; have := HK3.out; have := HK4.out; omega⟩, ⟨by exact HO290.out⟩, ⟨by with_reducible exact HB.out⟩⟩
                                    · rw [if_neg c30] at H
                                      exact absurd H (by simp)
                                  · rw [if_neg c29] at H
                                    have c29b0 : decide (0 < x8_4) = false := decide_eq_false c29
                                    clear c29
                                    have H' := Aside0.mk H
                                    clear H
                                    go_wp2
                                    (try simp only [← hl6_4])
                                    go_roundg k4
                                    case measure => have := HK1.out; have := HJ10.out; have := HK3.out; have := HK4.out; omega
                                    case rel => exact ⟨(x6_4), (wrap64 (x43_3 + 1)), (by rfl), H', ⟨by have := HK1.out; have := HJ10.out; have := HK3.out; have := HK4.out; omega⟩, ⟨by (try simp only [hl6_4]); exact HO_6.out⟩, ⟨by with_reducible exact HB.out⟩⟩
                          · rw [if_neg c20] at H
                            exact absurd H (by simp)
                        · rw [if_neg c19] at H
                          exact absurd H (by simp)
                      · rw [if_neg c18] at H
                        have c18b0 : decide (x43_3 < (a0.size : Int)) = false := decide_eq_false c18
                        clear c18
                        simp only [Option.some.injEq, Prod.mk.injEq] at H
                        obtain ⟨rfl, rfl⟩ := H
                        go_wp2
                        go_ret2
                        exact ⟨_, by rfl, by exact HO_6.out, by with_reducible exact HB.out⟩
  · rw [if_neg c2] at H
    exact absurd H (by simp)

/-! ### nat_Of: function 33 -/
def nat_Of.f (k : Nat) (a0 : Int) : Option (List Int) := (nat_trim_own.f k (([(a0) % 4294967296, (a0 / 4294967296) % 4294967296] : List Int))).bind fun t294 => ((api_Nat_uint32.f t294).bind fun t297 => (some t297))
theorem nat_Of.mono : ∀ a0 k, LeO (nat_Of.f k a0) (nat_Of.f (k + 1) a0) := by
  intro a0 k
  unfold nat_Of.f
  repeat' first
      | (with_reducible exact nat_trim_own.mono _ _)
      | (with_reducible exact LeO.refl _)
      | (with_reducible refine LeO.bind ?_ (fun _ => ?_))
set_option maxHeartbeats 8000000 in
set_option maxRecDepth 100000 in
theorem nat_Of.calls (k : Nat) (a0 : Int) (r : List Int) (w : World) (h : nat_Of.f k a0 = some r) :
    Calls Try.prog 33 #[.int .u64 a0] w fun e w' => ∃ v0_ : Value, e = .returned (v0_) ∧ Kd.R (Kd.int .u32) 53 w' w.heap.size (fun _ => True) v0_ r ∧ Below w.heap.size w w' := by
  have HB := Aside0.mk (Below.refl w.heap.size w)
  have H : ((nat_trim_own.f k (([(a0) % 4294967296, (a0 / 4294967296) % 4294967296] : List Int))).bind fun t294 => ((api_Nat_uint32.f t294).bind fun t297 => (some t297))) = some r := h
  clear h
  obtain ⟨y291, hy291⟩ : ∃ y_ : List Int, y_ = (([(a0) % 4294967296, (a0 / 4294967296) % 4294967296] : List Int)) := ⟨_, rfl⟩
  replace H : ((nat_trim_own.f k y291).bind fun t294 => ((api_Nat_uint32.f t294).bind fun t297 => (some t297))) = some r := by (rw [hy291]; with_reducible exact H)
  have Ny291 := Aside0.mk hy291
  clear hy291
  obtain ⟨t294, A2, H⟩ := bindE H
  obtain ⟨t297, A3, H⟩ := bindE H
  obtain rfl := Option.some.inj H
  go_enter Try.func33, Try.ntmps33
  go_wp2_with (first | ((with_reducible refine gate_dst (N := 8) rfl ?_); refine Kd.R_lit (Kd.int .u32) _ 53 ?hg (N := 8) ?hd (xs := ([(a0) % 4294967296, (a0 / 4294967296) % 4294967296] : List Int)) (inner := [.int .u32 ((a0) % 4294967296), .int .u32 ((a0 / 4294967296) % 4294967296)]) (ok := fun _ => True) (okp := fun _ => True) ?hr ?hp (fun _ hk => hk) trivial (Below.refl _ _) (Nat.le_refl _) (by simp) ?_; (case hd => rfl); (case hg => rfl); (case hr => (go_simp; done)); (case hp => exact (Reps.one (show Kd.M (Kd.int .u32) _ _ _ ((a0) % 4294967296) [.int .u32 ((a0) % 4294967296)] from rfl) (Reps.one (show Kd.M (Kd.int .u32) _ _ _ ((a0 / 4294967296) % 4294967296) [.int .u32 ((a0 / 4294967296) % 4294967296)] from rfl) (Reps.none _ _)))); intro v292 w4 ho5 hb hg_ hnew_; clear hg_ hnew_; (rw [← Ny291.out] at ho5); have n0_ := Aside0.mk (Kd.R_lower ho5 (below_size (by with_reducible exact HB.out))); have n1_ := Aside0.mk (below_step (by with_reducible exact HB.out) hb); clear HB; have HO293 := n0_; have HB := n1_; clear n0_ n1_; clear hb ho5; obtain ⟨Ao6, co6, eo6⟩ := Kd.R_slice HO293.out; subst eo6) | ((with_reducible refine gate_callee (f := 56) rfl ?_); refine goesL_ (some 9) rfl rfl Try.func56 (by kernel_rfl) rfl #[.slice Ao6 y291.length co6] rfl (by (try simp only [List.map_toArray, List.map_cons, List.map_nil]); rfl) ?_; (with_reducible refine (nat_trim_own.calls k (fun k_ => some k_ = (.slice Ao6 y291.length co6 : Value).ownBlock) (.slice Ao6 y291.length co6) y291 t294 w _ ?side1 ?side2 A2.out).mono ?_); (case side1 => repeat ((with_reducible exact HB.out))); (case side2 => exact Kd.R_tight rfl HO293.out); rintro e w7 ⟨v295, rfl, ho0, hb, hkp⟩; refine ⟨_, rfl, ?_⟩; have n0_ := Aside0.mk (Kd.R_mono (ok' := fun k_ => True) ho0 (fun k_ hk_ => trivial)); have n1_ := Aside0.mk (hb); clear HB; clear HO293; have HO296 := n0_; have HB := n1_; clear n0_ n1_; (try clear hb); (try clear hkp); (try clear ho0); obtain ⟨Ao8, co8, eo8⟩ := Kd.R_slice HO296.out; subst eo8) | ((with_reducible refine gate_callee (f := 61) rfl ?_); refine goesL_ (some 10) rfl rfl Try.func61 (by kernel_rfl) rfl #[.slice Ao8 t294.length co8] rfl (by (try simp only [List.map_toArray, List.map_cons, List.map_nil]); rfl) ?_; (with_reducible refine (api_Nat_uint32.calls _ _ t294 t297 _ ?side1 ?side2 A3.out).mono ?_); (case side1 => exact (Kd.R_reads' HO296.out).2.2); (case side2 => exact (Kd.R_reads' HO296.out).2.1); rintro e w9 ⟨v298, rfl, ho0, hb⟩; refine ⟨_, rfl, ?_⟩; have n0_ := Aside0.mk (Kd.R_elder' (by exact HO296.out) (Kd.R_base ho0) hb); have n1_ := Aside0.mk (Kd.R_lower (Kd.R_new' ho0 (Kd.R_lt (by exact HO296.out))) (below_size (by with_reducible exact HB.out))); have n2_ := Aside0.mk (below_step (by with_reducible exact HB.out) hb); clear HO296; clear HB; have HO296 := n0_; have HO299 := n1_; have HB := n2_; clear n0_ n1_ n2_; (try clear hb); (try clear ho0)))
  go_ret
  exact ⟨_, by rfl, by exact Kd.R_mono HO299.out (fun _ hk => trivial), by with_reducible exact HB.out⟩

end Go.Proofs.Ytafhcchjjlbojaa.ZNat
