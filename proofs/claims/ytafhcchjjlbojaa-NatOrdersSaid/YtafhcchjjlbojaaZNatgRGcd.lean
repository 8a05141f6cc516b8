-- printed by zprint.py, a program of this session's
import Derived.Test.YtafhcchjjlbojaaZNat0
import Derived.Test.YtafhcchjjlbojaaZNatgRAdd
import Derived.Test.YtafhcchjjlbojaaZNatgRTrim
namespace Go.Proofs.Ytafhcchjjlbojaa.ZNat
open Go.RowKit Go.Proofs.YtafhcchjjlbojaaW.PrintWords Go.Proofs.YtafhcchjjlbojaaW.PrintLast Go.Proofs.YtafhcchjjlbojaaW.PrintMore
set_option linter.unusedVariables false
set_option linter.unusedSimpArgs false

/-! ### zelligeref03_Half: function 62 -/
def zelligeref03_Half.l0 : Nat → List Int → List Int → Int → Int → Option (List Int)
  | 0, _, _, _, _ => none
  | k + 1, x0, x3, x4, x5 => if x5 ≥ 0 then (if 0 ≤ x5 then (if x5 < (x0.length : Int) then (if x5 < (x3.length : Int) then (zelligeref03_Half.l0 k x0 (x3.set (x5 : Int).toNat (wrap64 (Int.tdiv (wrap64 ((wrap64 (x4 * 65536)) + (rd x0 x5))) 2))) (Int.tmod (wrap64 ((wrap64 (x4 * 65536)) + (rd x0 x5))) 2) (wrap64 (x5 - 1))) else (none)) else (none)) else (none)) else ((zelligeref03_Trim.f k x3).bind fun t632 => (some t632))
def zelligeref03_Half.f (k : Nat) (l0 : List Int) : Option (List Int) := if 0 ≤ (l0.length : Int) then (if ((l0.length : Int) : Int).toNat ≤ 35184372088832 then (zelligeref03_Half.l0 k l0 (List.replicate ((l0.length : Int) : Int).toNat 0) 0 (wrap64 ((l0.length : Int) - 1))) else (none)) else (none)
theorem zelligeref03_Half.mono_l : ∀ k, (∀ y0 y1 y2 y3, LeO (zelligeref03_Half.l0 k y0 y1 y2 y3) (zelligeref03_Half.l0 (k + 1) y0 y1 y2 y3))
  | 0 => fun _ _ _ _ r h => by simp [zelligeref03_Half.l0] at h
  | k + 1 => by
    have ih0 := zelligeref03_Half.mono_l k
    · intro y0 y1 y2 y3
      unfold zelligeref03_Half.l0
      repeat' first
      | (with_reducible exact ih0 _ _ _ _)
      | (with_reducible exact zelligeref03_Trim.mono _ _)
      | (with_reducible exact LeO.refl _)
      | (with_reducible refine LeO.ite ?_ ?_)
      | (with_reducible refine LeO.bind ?_ (fun _ => ?_))
theorem zelligeref03_Half.mono : ∀ a0 k, LeO (zelligeref03_Half.f k a0) (zelligeref03_Half.f (k + 1) a0) := by
  intro a0 k
  have ih0 := zelligeref03_Half.mono_l k
  unfold zelligeref03_Half.f
  repeat' first
      | (with_reducible exact ih0 _ _ _ _)
      | (with_reducible exact LeO.refl _)
      | (with_reducible refine LeO.ite ?_ ?_)
set_option maxHeartbeats 8000000 in
set_option maxRecDepth 100000 in
theorem zelligeref03_Half.calls (k : Nat) (A0 : Option Addr) (c0 : Nat) (l0 : List Int) (r : List Int) (w : World) (hr0 : Kd.C (Kd.int .i64) w A0 l0.length l0) (hc0 : l0.length ≤ c0) (h : zelligeref03_Half.f k l0 = some r) :
    Calls Try.prog 62 #[.slice A0 l0.length c0] w fun e w' => ∃ v0_ : Value, e = .returned (v0_) ∧ Kd.R (Kd.int .i64) 3 w' w.heap.size (fun _ => True) v0_ r ∧ Below w.heap.size w w' := by
  have HR0 := Aside0.mk hr0
  have HC0 := Aside0.mk hc0
  clear hr0 hc0
  have HB := Aside0.mk (Below.refl w.heap.size w)
  have H : (if 0 ≤ (l0.length : Int) then (if ((l0.length : Int) : Int).toNat ≤ 35184372088832 then (zelligeref03_Half.l0 k l0 (List.replicate ((l0.length : Int) : Int).toNat 0) 0 (wrap64 ((l0.length : Int) - 1))) else (none)) else (none)) = some r := h
  clear h
  by_cases c2 : 0 ≤ (l0.length : Int)
  · rw [if_pos c2] at H
    have c2b0 := eq_true c2
    have c2b1 : decide (0 ≤ (l0.length : Int)) = true := decide_eq_true c2
    clear c2
    by_cases c3 : ((l0.length : Int) : Int).toNat ≤ 35184372088832
    · rw [if_pos c3] at H
      have c3b0 := eq_true c3
      have c3b1 : decide (((l0.length : Int) : Int).toNat ≤ 35184372088832) = true := decide_eq_true c3
      clear c3
      obtain ⟨y627, hy627⟩ : ∃ y_ : List Int, y_ = (List.replicate ((l0.length : Int) : Int).toNat 0) := ⟨_, rfl⟩
      replace H : (zelligeref03_Half.l0 k l0 y627 0 (wrap64 ((l0.length : Int) - 1))) = some r := by (rw [hy627]; with_reducible exact H)
      have Ny627 := Aside0.mk hy627
      clear hy627
      have H' := Aside0.mk H
      clear H
      go_enter Try.func62, Try.ntmps62
      go_wp2_with (((with_reducible refine gate_dst (N := 8) rfl ?_); refine Kd.R_make (Kd.int .i64) _ 3 rfl (N := 8) rfl 40 _ _ rfl (l0.length : Int) rfl rfl Try.underlying40 (.int .i64 0) 8 info3 rfl (by decide) (by omega) 0 (ok := fun _ => True) (okp := fun _ => True) rfl (fun _ hk => hk) trivial (of_decide_eq_true (by (with_reducible assumption))) (Nat.le_trans (Nat.mul_le_mul_right _ (of_decide_eq_true (by (with_reducible assumption)) : (l0.length : Int).toNat ≤ 35184372088832)) (by omega)) (Below.refl _ _) (Nat.le_refl _) ?_; intro v628 w4 ho5 hb hg_ hnew_; clear hg_ hnew_; (rw [← Ny627.out] at ho5); have n0_ := Aside0.mk (Kd.R_lower ho5 (below_size (by with_reducible exact HB.out))); have n1_ := Aside0.mk (below_step (by with_reducible exact HB.out) hb); clear HB; have HO629 := n0_; have HB := n1_; clear n0_ n1_; clear hb ho5))
      go_loopg [4, 5] k (fun kq v4 v5 w' => ∃ (x3_1 : List Int) (x4_1 : Int) (x5_1 : Int), v4 = .int .i64 x4_1 ∧ v5 = .int .i64 x5_1 ∧ Aside0 (zelligeref03_Half.l0 kq l0 x3_1 x4_1 x5_1 = some r) ∧ Aside0 (kq ≤ k) ∧ Aside0 (Kd.R (Kd.int .i64) 3 w' w.heap.size (fun _ => True) v628 x3_1) ∧ Aside0 (Below w.heap.size w w'))
      case atStart => exact ⟨(y627), (0), (wrap64 ((l0.length : Int) - 1)), (by rfl), (by rfl), H', ⟨Nat.le_refl _⟩, ⟨by exact HO629.out⟩, ⟨by with_reducible exact HB.out⟩⟩
      case round =>
        clear H'
        try clear c2b0
        try clear c2b1
        try clear c3b0
        try clear c3b1
        obtain ⟨x3_1, x4_1, x5_1, rfl, rfl, HA, HK1, HO_3, HB⟩ := hrel
        cases gk with
        | zero => exact absurd HA.out (by simp [zelligeref03_Half.l0])
        | succ k1 =>
          have H := HA.out
          clear HA
          simp only [zelligeref03_Half.l0] at H
          by_cases c6 : x5_1 ≥ 0
          · rw [if_pos c6] at H
            have c6b0 : decide (0 ≤ x5_1) = true := decide_eq_true c6
            clear c6
            by_cases c7 : 0 ≤ x5_1
            · rw [if_pos c7] at H
              have c7b0 : decide (0 ≤ x5_1) = true := decide_eq_true c7
              clear c7
              by_cases c8 : x5_1 < (l0.length : Int)
              · rw [if_pos c8] at H
                have c8b0 : decide (x5_1 < (l0.length : Int)) = true := decide_eq_true c8
                clear c8
                by_cases c9 : x5_1 < (x3_1.length : Int)
                · rw [if_pos c9] at H
                  have c9b0 : decide (x5_1 < (x3_1.length : Int)) = true := decide_eq_true c9
                  clear c9
                  obtain ⟨y631, hy631⟩ : ∃ y_ : List Int, y_ = (x3_1.set (x5_1 : Int).toNat (wrap64 (Int.tdiv (wrap64 ((wrap64 (x4_1 * 65536)) + (rd l0 x5_1))) 2))) := ⟨_, rfl⟩
                  replace H : (zelligeref03_Half.l0 k1 l0 y631 (Int.tmod (wrap64 ((wrap64 (x4_1 * 65536)) + (rd l0 x5_1))) 2) (wrap64 (x5_1 - 1))) = some r := by (rw [hy631]; with_reducible exact H)
                  have Ny631 := Aside0.mk hy631
                  clear hy631
                  have H' := Aside0.mk H
                  clear H
                  have p630 : 0 ≤ (x5_1 : Int) := of_decide_eq_true (by (with_reducible assumption))
                  have q630 : x5_1 < (l0.length : Int) := of_decide_eq_true (by (with_reducible assumption))
                  obtain ⟨ad630, e630, hx630_0⟩ := Kd.at_int HR0.out x5_1 p630 q630
                  cases e630
                  replace hx630_0 := (HB.out.cell (World.block_lt_of_cell? w _ hx630_0)).trans hx630_0
                  replace p630 := eq_true p630
                  replace q630 := eq_true q630
                  have p10 : 0 ≤ (x5_1 : Int) := of_decide_eq_true (by (with_reducible assumption))
                  have q10 : (x5_1 : Int) < ((x3_1.length : Int) : Int) := of_decide_eq_true (by (with_reducible assumption))
                  obtain ⟨go10, co10, eo10, gb10, gl10, cl10, HG10⟩ := Kd.R_form HO_3.out (by omega)
                  (cases eo10)
                  have GB10 := Aside0.mk gb10
                  have GG10 := Aside0.mk HG10
                  clear gb10 gl10 HG10
                  obtain ⟨hx10_0, hf10_0⟩ := Kd.R_celln 0 HO_3.out (x5_1 : Int) p10 q10
                  replace p10 := eq_true p10
                  replace q10 := eq_true q10
                  have HP11 := Kd.R_putg HO_3.out (x5_1 : Int) (wrap64 (Int.tdiv (wrap64 ((wrap64 (x4_1 * 65536)) + (rd l0 x5_1))) 2))
                  go_wp2_with (((with_reducible refine gate_store (t := 3) (p := 29) rfl ?_); refine store_event (t := 3) (p := 29) (v := ?vo_w12) (w1 := (wr.setCell ⟨go10, (x5_1 : Int).toNat, none⟩ (.int .i64 (wrap64 (Int.tdiv (wrap64 ((wrap64 (x4_1 * 65536)) + (rd l0 x5_1))) 2))))) ?hg ?ho ?hn ?hr ?_; (case ho => rfl); (case hg => rfl); (case hn => rfl); (case hr => (go_simp; done)); intro w12 hw; have hg : wr.grownBy w12 (some go10) := (by rw [hw]; exact HP11.2); have hp_ : Kd.R (Kd.int .i64) 3 w12 w.heap.size (fun _ => True) (.slice (some ⟨go10, 0, none⟩) x3_1.length co10) y631 := (by rw [hw, Ny631.out]; exact HP11.1); clear HP11; have n0_ := Aside0.mk (hp_); have n1_ := Aside0.mk ((by rw [hw]; exact below_set (HB.out) GB10.out : Below w.heap.size w w12)); clear HO_3; clear HB; have HO_3 := n0_; have HB := n1_; clear n0_ n1_; clear hg hw hp_))
                  go_roundg k1
                  case measure => have := HK1.out; omega
                  case rel => exact ⟨(y631), (Int.tmod (wrap64 ((wrap64 (x4_1 * 65536)) + (rd l0 x5_1))) 2), (wrap64 (x5_1 - 1)), (by rfl), (by rfl), H', ⟨by have := HK1.out; omega⟩, ⟨by exact HO_3.out⟩, ⟨by with_reducible exact HB.out⟩⟩
                · rw [if_neg c9] at H
                  exact absurd H (by simp)
              · rw [if_neg c8] at H
                exact absurd H (by simp)
            · rw [if_neg c7] at H
              exact absurd H (by simp)
          · rw [if_neg c6] at H
            have c6b0 : decide (0 ≤ x5_1) = false := decide_eq_false c6
            clear c6
            obtain ⟨t632, A13, H⟩ := bindE H
            obtain rfl := Option.some.inj H
            obtain ⟨Ao14, co14, eo14⟩ := Kd.R_slice HO_3.out
            subst eo14
            go_wp2_with (((with_reducible refine gate_callee (f := 58) rfl ?_); refine goesL_ (some 31) rfl rfl Try.func58 (by kernel_rfl) rfl #[.slice Ao14 x3_1.length co14] rfl (by (try simp only [List.map_toArray, List.map_cons, List.map_nil]); rfl) ?_; (with_reducible refine (zelligeref03_Trim.calls k1 (fun k_ => some k_ = (.slice Ao14 x3_1.length co14 : Value).ownBlock) (.slice Ao14 x3_1.length co14) x3_1 t632 w _ ?side1 ?side2 A13.out).mono ?_); (case side1 => repeat ((with_reducible exact HB.out))); (case side2 => exact Kd.R_tight rfl HO_3.out); rintro e w15 ⟨v633, rfl, ho0, hb, hkp⟩; refine ⟨_, rfl, ?_⟩; have n0_ := Aside0.mk (Kd.R_mono (ok' := fun k_ => True) ho0 (fun k_ hk_ => trivial)); have n1_ := Aside0.mk (hb); clear HB; clear HO_3; have HO634 := n0_; have HB := n1_; clear n0_ n1_; (try clear hb); (try clear hkp); (try clear ho0)))
            go_ret
            exact ⟨_, by rfl, by exact HO634.out, by with_reducible exact HB.out⟩
    · rw [if_neg c3] at H
      exact absurd H (by simp)
  · rw [if_neg c2] at H
    exact absurd H (by simp)

/-! ### zelligeref03_Gcd: function 36 -/
mutual
def zelligeref03_Gcd.l0 : Nat → List Int → List Int → List Int → Int → Option (List Int)
  | 0, _, _, _, _ => none
  | k + 1, x5, x6, x7, x8 => if 0 < (x6.length : Int) then (if (Int.tmod (rd x6 0) 2) = 0 then (if 0 < (x7.length : Int) then (zelligeref03_Gcd.j1 k x5 x6 x7 x8 ((Int.tmod (rd x7 0) 2) == 0)) else (none)) else (zelligeref03_Gcd.j1 k x5 x6 x7 x8 false)) else (none)
def zelligeref03_Gcd.j1 : Nat → List Int → List Int → List Int → Int → Bool → Option (List Int)
  | 0, _, _, _, _, _ => none
  | k + 1, x5, x6, x7, x8, x32 => if x32 = true then ((zelligeref03_Half.f k x6).bind fun t640 => ((zelligeref03_Half.f k x7).bind fun t643 => (zelligeref03_Gcd.l0 k x5 t640 t643 (wrap64 (x8 + 1))))) else (zelligeref03_Gcd.l1 k x5 x6 x7 x8)
def zelligeref03_Gcd.l1 : Nat → List Int → List Int → List Int → Int → Option (List Int)
  | 0, _, _, _, _ => none
  | k + 1, x5, x6, x7, x8 => if (x6.length : Int) > 0 then (zelligeref03_Gcd.l2 k x5 x6 x7 x8) else (zelligeref03_Gcd.l4 k x5 x7 x8 0)
def zelligeref03_Gcd.l2 : Nat → List Int → List Int → List Int → Int → Option (List Int)
  | 0, _, _, _, _ => none
  | k + 1, x5, x6, x7, x8 => if 0 < (x6.length : Int) then (if (Int.tmod (rd x6 0) 2) = 0 then ((zelligeref03_Half.f k x6).bind fun t647 => (zelligeref03_Gcd.l2 k x5 t647 x7 x8)) else (zelligeref03_Gcd.l3 k x5 x6 x7 x8)) else (none)
def zelligeref03_Gcd.l3 : Nat → List Int → List Int → List Int → Int → Option (List Int)
  | 0, _, _, _, _ => none
  | k + 1, x5, x6, x7, x8 => if 0 < (x7.length : Int) then (if (Int.tmod (rd x7 0) 2) = 0 then ((zelligeref03_Half.f k x7).bind fun t651 => (zelligeref03_Gcd.l3 k x5 x6 t651 x8)) else ((zelligeref03_Cmp.f k x6 x7).bind fun t654 => (if t654 < 0 then ((zelligeref03_Sub.f k x7 x6).bind fun t655 => (zelligeref03_Gcd.l1 k x5 t655 x6 x8)) else ((zelligeref03_Sub.f k x6 x7).bind fun t658 => (zelligeref03_Gcd.l1 k x5 t658 x7 x8))))) else (none)
def zelligeref03_Gcd.l4 : Nat → List Int → List Int → Int → Int → Option (List Int)
  | 0, _, _, _, _ => none
  | k + 1, x5, x7, x8, x9 => if x9 < x8 then ((zelligeref03_Add.f k x5 x5).bind fun t661 => (zelligeref03_Gcd.l4 k t661 x7 x8 (wrap64 (x9 + 1)))) else ((zelligeref03_Mul.f k x7 x5).bind fun t664 => (some t664))
end
def zelligeref03_Gcd.f (k : Nat) (l0 : List Int) (l1 : List Int) : Option (List Int) := if (l0.length : Int) = 0 then (some l1) else (if (l1.length : Int) = 0 then (some l0) else (zelligeref03_Gcd.l0 k (([1] : List Int)) l0 l1 0))
theorem zelligeref03_Gcd.mono_l : ∀ k, (∀ y0 y1 y2 y3, LeO (zelligeref03_Gcd.l0 k y0 y1 y2 y3) (zelligeref03_Gcd.l0 (k + 1) y0 y1 y2 y3)) ∧ (∀ y0 y1 y2 y3 y4, LeO (zelligeref03_Gcd.j1 k y0 y1 y2 y3 y4) (zelligeref03_Gcd.j1 (k + 1) y0 y1 y2 y3 y4)) ∧ (∀ y0 y1 y2 y3, LeO (zelligeref03_Gcd.l1 k y0 y1 y2 y3) (zelligeref03_Gcd.l1 (k + 1) y0 y1 y2 y3)) ∧ (∀ y0 y1 y2 y3, LeO (zelligeref03_Gcd.l2 k y0 y1 y2 y3) (zelligeref03_Gcd.l2 (k + 1) y0 y1 y2 y3)) ∧ (∀ y0 y1 y2 y3, LeO (zelligeref03_Gcd.l3 k y0 y1 y2 y3) (zelligeref03_Gcd.l3 (k + 1) y0 y1 y2 y3)) ∧ (∀ y0 y1 y2 y3, LeO (zelligeref03_Gcd.l4 k y0 y1 y2 y3) (zelligeref03_Gcd.l4 (k + 1) y0 y1 y2 y3))
  | 0 => ⟨fun _ _ _ _ r h => by simp [zelligeref03_Gcd.l0] at h, fun _ _ _ _ _ r h => by simp [zelligeref03_Gcd.j1] at h, fun _ _ _ _ r h => by simp [zelligeref03_Gcd.l1] at h, fun _ _ _ _ r h => by simp [zelligeref03_Gcd.l2] at h, fun _ _ _ _ r h => by simp [zelligeref03_Gcd.l3] at h, fun _ _ _ _ r h => by simp [zelligeref03_Gcd.l4] at h⟩
  | k + 1 => by
    obtain ⟨ih0, ih1, ih2, ih3, ih4, ih5⟩ := zelligeref03_Gcd.mono_l k
    refine ⟨?_, ?_, ?_, ?_, ?_, ?_⟩
    · intro y0 y1 y2 y3
      unfold zelligeref03_Gcd.l0
      repeat' first
      | (with_reducible exact ih1 _ _ _ _ _)
      | (with_reducible exact LeO.refl _)
      | (with_reducible refine LeO.ite ?_ ?_)
    · intro y0 y1 y2 y3 y4
      unfold zelligeref03_Gcd.j1
      repeat' first
      | (with_reducible exact ih0 _ _ _ _)
      | (with_reducible exact ih2 _ _ _ _)
      | (with_reducible exact zelligeref03_Half.mono _ _)
      | (with_reducible refine LeO.ite ?_ ?_)
      | (with_reducible refine LeO.bind ?_ (fun _ => ?_))
    · intro y0 y1 y2 y3
      unfold zelligeref03_Gcd.l1
      repeat' first
      | (with_reducible exact ih3 _ _ _ _)
      | (with_reducible exact ih5 _ _ _ _)
      | (with_reducible refine LeO.ite ?_ ?_)
    · intro y0 y1 y2 y3
      unfold zelligeref03_Gcd.l2
      repeat' first
      | (with_reducible exact ih3 _ _ _ _)
      | (with_reducible exact ih4 _ _ _ _)
      | (with_reducible exact zelligeref03_Half.mono _ _)
      | (with_reducible exact LeO.refl _)
      | (with_reducible refine LeO.ite ?_ ?_)
      | (with_reducible refine LeO.bind ?_ (fun _ => ?_))
    · intro y0 y1 y2 y3
      unfold zelligeref03_Gcd.l3
      repeat' first
      | (with_reducible exact ih2 _ _ _ _)
      | (with_reducible exact ih4 _ _ _ _)
      | (with_reducible exact zelligeref03_Cmp.mono _ _ _)
      | (with_reducible exact zelligeref03_Half.mono _ _)
      | (with_reducible exact zelligeref03_Sub.mono _ _ _)
      | (with_reducible exact LeO.refl _)
      | (with_reducible refine LeO.ite ?_ ?_)
      | (with_reducible refine LeO.bind ?_ (fun _ => ?_))
    · intro y0 y1 y2 y3
      unfold zelligeref03_Gcd.l4
      repeat' first
      | (with_reducible exact ih5 _ _ _ _)
      | (with_reducible exact zelligeref03_Add.mono _ _ _)
      | (with_reducible exact zelligeref03_Mul.mono _ _ _)
      | (with_reducible exact LeO.refl _)
      | (with_reducible refine LeO.ite ?_ ?_)
      | (with_reducible refine LeO.bind ?_ (fun _ => ?_))
theorem zelligeref03_Gcd.mono : ∀ a0 a1 k, LeO (zelligeref03_Gcd.f k a0 a1) (zelligeref03_Gcd.f (k + 1) a0 a1) := by
  intro a0 a1 k
  obtain ⟨ih0, ih1, ih2, ih3, ih4, ih5⟩ := zelligeref03_Gcd.mono_l k
  unfold zelligeref03_Gcd.f
  repeat' first
      | (with_reducible exact ih0 _ _ _ _)
      | (with_reducible exact LeO.refl _)
      | (with_reducible refine LeO.ite ?_ ?_)
set_option maxHeartbeats 8000000 in
set_option maxRecDepth 100000 in
theorem zelligeref03_Gcd.calls (k : Nat) (P0_ : Nat → Prop) (A0 : Option Addr) (c0 : Nat) (l0 : List Int) (P1_ : Nat → Prop) (A1 : Option Addr) (c1 : Nat) (l1 : List Int) (r : List Int) (w : World) (hs0 : Kd.V (Kd.int .i64) 3 w w.heap.size (fun k_ => P0_ k_) (.slice A0 l0.length c0) l0) (hs1 : Kd.V (Kd.int .i64) 3 w w.heap.size (fun k_ => P1_ k_) (.slice A1 l1.length c1) l1) (h : zelligeref03_Gcd.f k l0 l1 = some r) :
    Calls Try.prog 36 #[.slice A0 l0.length c0, .slice A1 l1.length c1] w fun e w' => ∃ v0_ : Value, e = .returned (v0_) ∧ Kd.V (Kd.int .i64) 3 w' w.heap.size (fun k_ => ((P0_ k_ ∨ P1_ k_) ∨ w.heap.size ≤ k_)) v0_ r ∧ Below w.heap.size w w' := by
  have HO0 := Aside0.mk (show Kd.V (Kd.int .i64) 3 w w.heap.size (fun k_ => ((P0_ k_ ∨ P1_ k_) ∨ w.heap.size ≤ k_)) (.slice A0 l0.length c0) l0 from Kd.V_mono hs0 (fun k_ hk => .inl (.inl hk)))
  have HO1 := Aside0.mk (show Kd.V (Kd.int .i64) 3 w w.heap.size (fun k_ => ((P0_ k_ ∨ P1_ k_) ∨ w.heap.size ≤ k_)) (.slice A1 l1.length c1) l1 from Kd.V_mono hs1 (fun k_ hk => .inl (.inr hk)))
  have HB := Aside0.mk (Below.refl w.heap.size w)
  have H : (if (l0.length : Int) = 0 then (some l1) else (if (l1.length : Int) = 0 then (some l0) else (zelligeref03_Gcd.l0 k (([1] : List Int)) l0 l1 0))) = some r := h
  clear h
  obtain ⟨y635, hy635⟩ : ∃ y_ : List Int, y_ = (([1] : List Int)) := ⟨_, rfl⟩
  replace H : (if (l0.length : Int) = 0 then (some l1) else (if (l1.length : Int) = 0 then (some l0) else (zelligeref03_Gcd.l0 k y635 l0 l1 0))) = some r := by (rw [hy635]; with_reducible exact H)
  have Ny635 := Aside0.mk hy635
  clear hy635
  by_cases c3 : (l0.length : Int) = 0
  · rw [if_pos c3] at H
    have c3b0 : ((l0.length : Int) == 0) = true := beq_iff_eq.mpr c3
    have c3b1 : ((l0.length : Int) != 0) = false := bne_eq_false_iff_eq.mpr c3
    clear c3
    obtain rfl := Option.some.inj H
    go_enter Try.func36, Try.ntmps36
    go_wp2_with (((with_reducible refine gate_dst (N := 10) rfl ?_); refine Kd.R_lit (Kd.int .i64) _ 3 ?hg (N := 10) ?hd (xs := ([1] : List Int)) (inner := [.int .i64 1]) (ok := fun _ => True) (okp := fun _ => True) ?hr ?hp (fun _ hk => hk) trivial (Below.refl _ _) (Nat.le_refl _) (by simp) ?_; (case hd => rfl); (case hg => rfl); (case hr => (go_simp; done)); (case hp => exact (Reps.one (show Kd.M (Kd.int .i64) _ _ _ 1 [.int .i64 1] from rfl) (Reps.none _ _))); intro v636 w4 ho5 hb hg_ hnew_; clear hg_ hnew_; (rw [← Ny635.out] at ho5); have n0_ := Aside0.mk (Kd.V_elder' (by exact HO0.out) (Kd.R_base ho5) hb); have n1_ := Aside0.mk (Kd.V_elder' (by exact HO1.out) (Kd.R_base ho5) hb); have n2_ := Aside0.mk (Kd.R_lower (Kd.R_newM (M := fun k_ => (w.heap.size ≤ k_)) ho5 (below_size (by with_reducible exact HB.out)) (fun k_ h_ => h_)) (below_size (by with_reducible exact HB.out))); have n3_ := Aside0.mk (below_step (by with_reducible exact HB.out) hb); clear HO0; clear HO1; clear HB; have HO0 := n0_; have HO1 := n1_; have HO637 := n2_; have HB := n3_; clear n0_ n1_ n2_ n3_; clear hb ho5))
    go_ret
    exact ⟨_, by rfl, by exact Kd.V_mono HO1.out (fun _ hk => hk.1), by with_reducible exact HB.out⟩
  · rw [if_neg c3] at H
    have c3b0 : ((l0.length : Int) == 0) = false := beq_eq_false_iff_ne.mpr c3
    have c3b1 : ((l0.length : Int) != 0) = true := bne_iff_ne.mpr c3
    have c3b2 : ¬ (l0 = []) := fun h_ => c3 (by rw [h_]; rfl)
    by_cases c6 : (l1.length : Int) = 0
    · rw [if_pos c6] at H
      have c6b0 : ((l1.length : Int) == 0) = true := beq_iff_eq.mpr c6
      have c6b1 : ((l1.length : Int) != 0) = false := bne_eq_false_iff_eq.mpr c6
      clear c6
      obtain rfl := Option.some.inj H
      go_enter Try.func36, Try.ntmps36
      go_wp2_with (((with_reducible refine gate_dst (N := 10) rfl ?_); refine Kd.R_lit (Kd.int .i64) _ 3 ?hg (N := 10) ?hd (xs := ([1] : List Int)) (inner := [.int .i64 1]) (ok := fun _ => True) (okp := fun _ => True) ?hr ?hp (fun _ hk => hk) trivial (Below.refl _ _) (Nat.le_refl _) (by simp) ?_; (case hd => rfl); (case hg => rfl); (case hr => (go_simp; done)); (case hp => exact (Reps.one (show Kd.M (Kd.int .i64) _ _ _ 1 [.int .i64 1] from rfl) (Reps.none _ _))); intro v636 w7 ho8 hb hg_ hnew_; clear hg_ hnew_; (rw [← Ny635.out] at ho8); have n0_ := Aside0.mk (Kd.V_elder' (by exact HO0.out) (Kd.R_base ho8) hb); have n1_ := Aside0.mk (Kd.V_elder' (by exact HO1.out) (Kd.R_base ho8) hb); have n2_ := Aside0.mk (Kd.R_lower (Kd.R_newM (M := fun k_ => (w.heap.size ≤ k_)) ho8 (below_size (by with_reducible exact HB.out)) (fun k_ h_ => h_)) (below_size (by with_reducible exact HB.out))); have n3_ := Aside0.mk (below_step (by with_reducible exact HB.out) hb); clear HO0; clear HO1; clear HB; have HO0 := n0_; have HO1 := n1_; have HO637 := n2_; have HB := n3_; clear n0_ n1_ n2_ n3_; clear hb ho8))
      go_ret
      exact ⟨_, by rfl, by exact Kd.V_mono HO0.out (fun _ hk => hk.1), by with_reducible exact HB.out⟩
    · rw [if_neg c6] at H
      have c6b0 : ((l1.length : Int) == 0) = false := beq_eq_false_iff_ne.mpr c6
      have c6b1 : ((l1.length : Int) != 0) = true := bne_iff_ne.mpr c6
      have c6b2 : ¬ (l1 = []) := fun h_ => c6 (by rw [h_]; rfl)
      have H' := Aside0.mk H
      clear H
      go_enter Try.func36, Try.ntmps36
      go_wp2_with (((with_reducible refine gate_dst (N := 10) rfl ?_); refine Kd.R_lit (Kd.int .i64) _ 3 ?hg (N := 10) ?hd (xs := ([1] : List Int)) (inner := [.int .i64 1]) (ok := fun _ => True) (okp := fun _ => True) ?hr ?hp (fun _ hk => hk) trivial (Below.refl _ _) (Nat.le_refl _) (by simp) ?_; (case hd => rfl); (case hg => rfl); (case hr => (go_simp; done)); (case hp => exact (Reps.one (show Kd.M (Kd.int .i64) _ _ _ 1 [.int .i64 1] from rfl) (Reps.none _ _))); intro v636 w9 ho10 hb hg_ hnew_; clear hg_ hnew_; (rw [← Ny635.out] at ho10); have n0_ := Aside0.mk (Kd.V_elder' (by exact HO0.out) (Kd.R_base ho10) hb); have n1_ := Aside0.mk (Kd.V_elder' (by exact HO1.out) (Kd.R_base ho10) hb); have n2_ := Aside0.mk (Kd.R_lower (Kd.R_newM (M := fun k_ => (w.heap.size ≤ k_)) ho10 (below_size (by with_reducible exact HB.out)) (fun k_ h_ => h_)) (below_size (by with_reducible exact HB.out))); have n3_ := Aside0.mk (below_step (by with_reducible exact HB.out) hb); clear HO0; clear HO1; clear HB; have HO0 := n0_; have HO1 := n1_; have HO637 := n2_; have HB := n3_; clear n0_ n1_ n2_ n3_; clear hb ho10))
      go_loopg [6, 7, 8] k (fun kq v6 v7 v8 w' => ∃ (x6_1 : List Int) (x7_1 : List Int) (x8_1 : Int), v8 = .int .i64 x8_1 ∧ Aside0 (zelligeref03_Gcd.l0 kq y635 x6_1 x7_1 x8_1 = some r) ∧ Aside0 (kq ≤ k) ∧ Aside0 (Kd.R (Kd.int .i64) 3 w' w.heap.size (fun k_ => (w.heap.size ≤ k_)) v636 y635) ∧ Aside0 (Kd.V (Kd.int .i64) 3 w' w.heap.size (fun k_ => ((P0_ k_ ∨ P1_ k_) ∨ w.heap.size ≤ k_) ∧ some k_ ≠ (v636 : Value).ownBlock) v6 x6_1) ∧ Aside0 (Kd.V (Kd.int .i64) 3 w' w.heap.size (fun k_ => ((P0_ k_ ∨ P1_ k_) ∨ w.heap.size ≤ k_) ∧ some k_ ≠ (v636 : Value).ownBlock) v7 x7_1) ∧ Aside0 (Below w.heap.size w w'))
      case atStart => exact ⟨(l0), (l1), (0), (by rfl), H', ⟨Nat.le_refl _⟩, ⟨by exact Kd.R_mono HO637.out (fun _ hk => hk.1)⟩, ⟨by exact HO0.out⟩, ⟨by exact HO1.out⟩, ⟨by with_reducible exact HB.out⟩⟩
      case round =>
        clear H'
        try clear c3
        try clear c3b0
        try clear c3b1
        try clear c3b2
        try clear c6
        try clear c6b0
        try clear c6b1
        try clear c6b2
        obtain ⟨x6_1, x7_1, x8_1, rfl, HA, HK1, HO_5, HO_6, HO_7, HB⟩ := hrel
        cases gk with
        | zero => exact absurd HA.out (by simp [zelligeref03_Gcd.l0])
        | succ k1 =>
          have H := HA.out
          clear HA
          simp only [zelligeref03_Gcd.l0] at H
          have HC11 := Aside0.mk H
          clear H
          go_upto_region 7 with (fail)
          go_cut [32] (fun v32 wc => ∃ (kq : Nat) (x32_10 : Bool), v32 = .bool x32_10 ∧ Aside0 (zelligeref03_Gcd.j1 kq y635 x6_1 x7_1 x8_1 x32_10 = some r) ∧ Aside0 (kq ≤ k1) ∧ Aside0 (Kd.R (Kd.int .i64) 3 wc w.heap.size (fun k_ => (w.heap.size ≤ k_)) v636 y635) ∧ Aside0 (Kd.V (Kd.int .i64) 3 wc w.heap.size (fun k_ => ((P0_ k_ ∨ P1_ k_) ∨ w.heap.size ≤ k_) ∧ some k_ ≠ (v636 : Value).ownBlock) u6 x6_1) ∧ Aside0 (Kd.V (Kd.int .i64) 3 wc w.heap.size (fun k_ => ((P0_ k_ ∨ P1_ k_) ∨ w.heap.size ≤ k_) ∧ some k_ ≠ (v636 : Value).ownBlock) u7 x7_1) ∧ Aside0 (Below w.heap.size w wc))
          case first =>
            have H := HC11.out
            clear HC11
            by_cases c12 : 0 < (x6_1.length : Int)
            · rw [if_pos c12] at H
              have c12b0 : decide (0 < (x6_1.length : Int)) = true := decide_eq_true c12
              have c12b1 : decide (0 < x6_1.length) = true := decide_eq_true (by omega)
              clear c12
              (skip)
              by_cases c13 : (Int.tmod (rd x6_1 0) 2) = 0
              · rw [if_pos c13] at H
                have c13b0 : ((Int.tmod (rd x6_1 0) 2) == 0) = true := beq_iff_eq.mpr c13
                have c13b1 : ((Int.tmod (rd x6_1 0) 2) != 0) = false := bne_eq_false_iff_eq.mpr c13
                clear c13
                by_cases c14 : 0 < (x7_1.length : Int)
                · rw [if_pos c14] at H
                  have c14b0 : decide (0 < (x7_1.length : Int)) = true := decide_eq_true c14
                  have c14b1 : decide (0 < x7_1.length) = true := decide_eq_true (by omega)
                  clear c14
                  have H' := Aside0.mk H
                  clear H
                  obtain ⟨Ao15, co15, eo15⟩ := Kd.V_slice HO_6.out
                  subst eo15
                  have p638 : 0 ≤ (0 : Int) := (by omega)
                  have q638 : 0 < (x6_1.length : Int) := of_decide_eq_true (by (with_reducible assumption))
                  obtain ⟨ad638, e638, hx638_0⟩ := Kd.at_int (Kd.V_reads' HO_6.out).2.2 0 p638 q638
                  cases e638
                  have qi638 : (0 < x6_1.length) = True := eq_true (by omega)
                  (try rw [show ((0 : Int)).toNat = 0 from rfl] at hx638_0)
                  (try rw [Addr.add_zero'] at hx638_0)
                  replace p638 := eq_true p638
                  replace q638 := eq_true q638
                  obtain ⟨Ao16, co16, eo16⟩ := Kd.V_slice HO_7.out
                  subst eo16
                  have p639 : 0 ≤ (0 : Int) := (by omega)
                  have q639 : 0 < (x7_1.length : Int) := of_decide_eq_true (by (with_reducible assumption))
                  obtain ⟨ad639, e639, hx639_0⟩ := Kd.at_int (Kd.V_reads' HO_7.out).2.2 0 p639 q639
                  cases e639
                  have qi639 : (0 < x7_1.length) = True := eq_true (by omega)
                  (try rw [show ((0 : Int)).toNat = 0 from rfl] at hx639_0)
                  (try rw [Addr.add_zero'] at hx639_0)
                  replace p639 := eq_true p639
                  replace q639 := eq_true q639
                  go_wp2
                  go_meet
                  case rel => exact ⟨_, (((Int.tmod (rd x7_1 0) 2) == 0)), (by rfl), H', ⟨by have := HK1.out; omega⟩, ⟨by exact HO_5.out⟩, ⟨by exact HO_6.out⟩, ⟨by exact HO_7.out⟩, ⟨by with_reducible exact HB.out⟩⟩
                · rw [if_neg c14] at H
                  exact absurd H (by simp)
              · rw [if_neg c13] at H
                have c13b0 : ((Int.tmod (rd x6_1 0) 2) == 0) = false := beq_eq_false_iff_ne.mpr c13
                have c13b1 : ((Int.tmod (rd x6_1 0) 2) != 0) = true := bne_iff_ne.mpr c13
                have H' := Aside0.mk H
                clear H
                obtain ⟨Ao17, co17, eo17⟩ := Kd.V_slice HO_6.out
                subst eo17
                have p638 : 0 ≤ (0 : Int) := (by omega)
                have q638 : 0 < (x6_1.length : Int) := of_decide_eq_true (by (with_reducible assumption))
                obtain ⟨ad638, e638, hx638_0⟩ := Kd.at_int (Kd.V_reads' HO_6.out).2.2 0 p638 q638
                cases e638
                have qi638 : (0 < x6_1.length) = True := eq_true (by omega)
                (try rw [show ((0 : Int)).toNat = 0 from rfl] at hx638_0)
                (try rw [Addr.add_zero'] at hx638_0)
                replace p638 := eq_true p638
                replace q638 := eq_true q638
                go_wp2
                go_meet
                case rel => exact ⟨_, (false), (by rfl), H', ⟨by have := HK1.out; omega⟩, ⟨by exact HO_5.out⟩, ⟨by exact HO_6.out⟩, ⟨by exact HO_7.out⟩, ⟨by with_reducible exact HB.out⟩⟩
            · rw [if_neg c12] at H
              exact absurd H (by simp)
          case rest =>
            clear HC11
            obtain ⟨kq, x32_10, rfl, HA, HJ10, HO_5, HO_6, HO_7, HB⟩ := hcut
            cases kq with
            | zero => exact absurd HA.out (by simp [zelligeref03_Gcd.j1])
            | succ kj10 =>
              have H := HA.out
              clear HA
              simp only [zelligeref03_Gcd.j1] at H
              by_cases c18 : x32_10 = true
              · subst c18
                rw [if_pos rfl] at H
                obtain ⟨t640, A19, H⟩ := bindE H
                obtain ⟨t643, A20, H⟩ := bindE H
                have H' := Aside0.mk H
                clear H
                obtain ⟨Ao21, co21, eo21⟩ := Kd.V_slice HO_6.out
                subst eo21
                go_wp2_with (first | ((with_reducible refine gate_callee (f := 62) rfl ?_); refine goesL_ (some 34) rfl rfl Try.func62 (by kernel_rfl) rfl #[.slice Ao21 x6_1.length co21] rfl (by (try simp only [List.map_toArray, List.map_cons, List.map_nil]); rfl) ?_; (with_reducible refine (zelligeref03_Half.calls kj10 _ _ x6_1 t640 _ ?side1 ?side2 A19.out).mono ?_); (case side1 => exact (Kd.V_reads' HO_6.out).2.2); (case side2 => exact (Kd.V_reads' HO_6.out).2.1); rintro e w22 ⟨v641, rfl, ho0, hb⟩; refine ⟨_, rfl, ?_⟩; have n0_ := Aside0.mk (Kd.R_elder' (by exact HO_5.out) (Kd.R_base ho0) hb); have n1_ := Aside0.mk (Kd.V_elder' (by exact HO_6.out) (Kd.R_base ho0) hb); have n2_ := Aside0.mk (Kd.V_elder' (by exact HO_7.out) (Kd.R_base ho0) hb); have n3_ := Aside0.mk (Kd.R_lower (Kd.R_new' (Kd.R_newM (M := fun k_ => (w.heap.size ≤ k_)) ho0 (below_size (by with_reducible exact HB.out)) (fun k_ h_ => h_)) (Kd.R_lt (by exact HO_5.out))) (below_size (by with_reducible exact HB.out))); have n4_ := Aside0.mk (below_step (by with_reducible exact HB.out) hb); clear HO_5; clear HO_6; clear HO_7; clear HB; have HO_5 := n0_; have HO_6 := n1_; have HO_7 := n2_; have HO642 := n3_; have HB := n4_; clear n0_ n1_ n2_ n3_ n4_; (try clear hb); (try clear ho0); obtain ⟨Ao23, co23, eo23⟩ := Kd.V_slice HO_7.out; subst eo23) | ((with_reducible refine gate_callee (f := 62) rfl ?_); refine goesL_ (some 36) rfl rfl Try.func62 (by kernel_rfl) rfl #[.slice Ao23 x7_1.length co23] rfl (by (try simp only [List.map_toArray, List.map_cons, List.map_nil]); rfl) ?_; (with_reducible refine (zelligeref03_Half.calls kj10 _ _ x7_1 t643 _ ?side1 ?side2 A20.out).mono ?_); (case side1 => exact (Kd.V_reads' HO_7.out).2.2); (case side2 => exact (Kd.V_reads' HO_7.out).2.1); rintro e w24 ⟨v644, rfl, ho0, hb⟩; refine ⟨_, rfl, ?_⟩; have n0_ := Aside0.mk (Kd.R_elder' (by exact HO_5.out) (Kd.R_base ho0) hb); have n1_ := Aside0.mk (Kd.V_elder' (by exact HO_6.out) (Kd.R_base ho0) hb); have n2_ := Aside0.mk (Kd.V_elder' (by exact HO_7.out) (Kd.R_base ho0) hb); have n3_ := Aside0.mk (Kd.R_elder' (by exact HO642.out) (Kd.R_base ho0) hb); have n4_ := Aside0.mk (Kd.R_lower (Kd.R_new' (Kd.R_new' (Kd.R_newM (M := fun k_ => (w.heap.size ≤ k_)) ho0 (below_size (by with_reducible exact HB.out)) (fun k_ h_ => h_)) (Kd.R_lt (by exact HO_5.out))) (Kd.R_lt (by exact HO642.out))) (below_size (by with_reducible exact HB.out))); have n5_ := Aside0.mk (below_step (by with_reducible exact HB.out) hb); clear HO_5; clear HO_6; clear HO_7; clear HO642; clear HB; have HO_5 := n0_; have HO_6 := n1_; have HO_7 := n2_; have HO642 := n3_; have HO645 := n4_; have HB := n5_; clear n0_ n1_ n2_ n3_ n4_ n5_; (try clear hb); (try clear ho0)))
                go_roundg kj10
                case measure => have := HK1.out; have := HJ10.out; omega
                case rel => exact ⟨(t640), (t643), (wrap64 (x8_1 + 1)), (by rfl), H', ⟨by have := HK1.out; have := HJ10.out; omega⟩, ⟨by exact Kd.R_mono HO_5.out (fun _ hk => hk.1.1)⟩, ⟨Kd.V_mono (Kd.R_V (by exact HO642.out)) (fun k_ hk => by (simp [hk]; done))⟩, ⟨Kd.V_mono (Kd.R_V (by exact HO645.out)) (fun k_ hk => by (simp [hk]; done))⟩, ⟨by with_reducible exact HB.out⟩⟩
              · replace c18 := Bool.eq_false_iff.mpr c18
                subst c18
                rw [if_neg (show ¬ (false = true) by decide)] at H
                have H' := Aside0.mk H
                clear H
                go_wp2
                go_loopg [6, 7] kj10 (fun kq v6 v7 w' => ∃ (x6_3 : List Int) (x7_3 : List Int), Aside0 (zelligeref03_Gcd.l1 kq y635 x6_3 x7_3 x8_1 = some r) ∧ Aside0 (kq ≤ kj10) ∧ Aside0 (Kd.R (Kd.int .i64) 3 w' w.heap.size (fun k_ => (w.heap.size ≤ k_)) v636 y635) ∧ Aside0 (Kd.V (Kd.int .i64) 3 w' w.heap.size (fun k_ => ((P0_ k_ ∨ P1_ k_) ∨ w.heap.size ≤ k_) ∧ some k_ ≠ (v636 : Value).ownBlock) v6 x6_3) ∧ Aside0 (Kd.V (Kd.int .i64) 3 w' w.heap.size (fun k_ => ((P0_ k_ ∨ P1_ k_) ∨ w.heap.size ≤ k_) ∧ some k_ ≠ (v636 : Value).ownBlock) v7 x7_3) ∧ Aside0 (Below w.heap.size w w'))
                case atStart => exact ⟨(x6_1), (x7_1), H', ⟨Nat.le_refl _⟩, ⟨by exact HO_5.out⟩, ⟨by exact HO_6.out⟩, ⟨by exact HO_7.out⟩, ⟨by with_reducible exact HB.out⟩⟩
                case round =>
                  clear H'
                  obtain ⟨x6_3, x7_3, HA, HK3, HO_5, HO_6, HO_7, HB⟩ := hrel
                  cases gk with
                  | zero => exact absurd HA.out (by simp [zelligeref03_Gcd.l1])
                  | succ k3 =>
                    have H := HA.out
                    clear HA
                    simp only [zelligeref03_Gcd.l1] at H
                    by_cases c25 : (x6_3.length : Int) > 0
                    · rw [if_pos c25] at H
                      have c25b0 : decide (0 < (x6_3.length : Int)) = true := decide_eq_true c25
                      have c25b1 : decide (0 < x6_3.length) = true := decide_eq_true (by omega)
                      clear c25
                      have H' := Aside0.mk H
                      clear H
                      obtain ⟨Ao26, co26, eo26⟩ := Kd.V_slice HO_6.out
                      subst eo26
                      go_wp2
                      go_loopg [6] k3 (fun kq v6 w' => ∃ (x6_4 : List Int), Aside0 (zelligeref03_Gcd.l2 kq y635 x6_4 x7_3 x8_1 = some r) ∧ Aside0 (kq ≤ k3) ∧ Aside0 (Kd.R (Kd.int .i64) 3 w' w.heap.size (fun k_ => (w.heap.size ≤ k_)) v636 y635) ∧ Aside0 (Kd.V (Kd.int .i64) 3 w' w.heap.size (fun k_ => ((P0_ k_ ∨ P1_ k_) ∨ w.heap.size ≤ k_) ∧ some k_ ≠ (v636 : Value).ownBlock) v6 x6_4) ∧ Aside0 (Kd.V (Kd.int .i64) 3 w' w.heap.size (fun k_ => ((P0_ k_ ∨ P1_ k_) ∨ w.heap.size ≤ k_) ∧ some k_ ≠ (v636 : Value).ownBlock) u7 x7_3) ∧ Aside0 (Below w.heap.size w w'))
                      case atStart => exact ⟨(x6_3), H', ⟨Nat.le_refl _⟩, ⟨by exact HO_5.out⟩, ⟨by exact HO_6.out⟩, ⟨by exact HO_7.out⟩, ⟨by with_reducible exact HB.out⟩⟩
                      case round =>
                        clear H'
                        try clear c25b0
                        try clear c25b1
                        obtain ⟨x6_4, HA, HK4, HO_5, HO_6, HO_7, HB⟩ := hrel
                        cases gk with
                        | zero => exact absurd HA.out (by simp [zelligeref03_Gcd.l2])
                        | succ k4 =>
                          have H := HA.out
                          clear HA
                          simp only [zelligeref03_Gcd.l2] at H
                          by_cases c27 : 0 < (x6_4.length : Int)
                          · rw [if_pos c27] at H
                            have c27b0 : decide (0 < (x6_4.length : Int)) = true := decide_eq_true c27
                            have c27b1 : decide (0 < x6_4.length) = true := decide_eq_true (by omega)
                            clear c27
                            by_cases c28 : (Int.tmod (rd x6_4 0) 2) = 0
                            · rw [if_pos c28] at H
                              have c28b0 : ((Int.tmod (rd x6_4 0) 2) == 0) = true := beq_iff_eq.mpr c28
                              have c28b1 : ((Int.tmod (rd x6_4 0) 2) != 0) = false := bne_eq_false_iff_eq.mpr c28
                              clear c28
                              obtain ⟨t647, A29, H⟩ := bindE H
                              have H' := Aside0.mk H
                              clear H
                              obtain ⟨Ao30, co30, eo30⟩ := Kd.V_slice HO_6.out
                              subst eo30
                              have p646 : 0 ≤ (0 : Int) := (by omega)
                              have q646 : 0 < (x6_4.length : Int) := of_decide_eq_true (by (with_reducible assumption))
                              obtain ⟨ad646, e646, hx646_0⟩ := Kd.at_int (Kd.V_reads' HO_6.out).2.2 0 p646 q646
                              cases e646
                              have qi646 : (0 < x6_4.length) = True := eq_true (by omega)
                              (try rw [show ((0 : Int)).toNat = 0 from rfl] at hx646_0)
                              (try rw [Addr.add_zero'] at hx646_0)
                              replace p646 := eq_true p646
                              replace q646 := eq_true q646
                              go_wp2_with (((with_reducible refine gate_callee (f := 62) rfl ?_); refine goesL_ (some 48) rfl rfl Try.func62 (by kernel_rfl) rfl #[.slice (some ad646) x6_4.length co30] rfl (by (try simp only [List.map_toArray, List.map_cons, List.map_nil]); rfl) ?_; (with_reducible refine (zelligeref03_Half.calls k4 _ _ x6_4 t647 _ ?side1 ?side2 A29.out).mono ?_); (case side1 => exact (Kd.V_reads' HO_6.out).2.2); (case side2 => exact (Kd.V_reads' HO_6.out).2.1); rintro e w31 ⟨v648, rfl, ho0, hb⟩; refine ⟨_, rfl, ?_⟩; have n0_ := Aside0.mk (Kd.R_elder' (by exact HO_5.out) (Kd.R_base ho0) hb); have n1_ := Aside0.mk (Kd.V_elder' (by exact HO_6.out) (Kd.R_base ho0) hb); have n2_ := Aside0.mk (Kd.V_elder' (by exact HO_7.out) (Kd.R_base ho0) hb); have n3_ := Aside0.mk (Kd.R_lower (Kd.R_new' (Kd.R_newM (M := fun k_ => (w.heap.size ≤ k_)) ho0 (below_size (by with_reducible exact HB.out)) (fun k_ h_ => h_)) (Kd.R_lt (by exact HO_5.out))) (below_size (by with_reducible exact HB.out))); have n4_ := Aside0.mk (below_step (by with_reducible exact HB.out) hb); clear HO_5; clear HO_6; clear HO_7; clear HB; have HO_5 := n0_; have HO_6 := n1_; have HO_7 := n2_; have HO649 := n3_; have HB := n4_; clear n0_ n1_ n2_ n3_ n4_; (try clear hb); (try clear ho0)))
                              go_roundg k4
                              case measure => have := HK1.out; have := HJ10.out; have := HK3.out; have := HK4.out; omega
                              case rel => exact ⟨(t647), H', ⟨by have := HK1.out; have := HJ10.out; have := HK3.out; have := HK4.out; omega⟩, ⟨by exact Kd.R_mono HO_5.out (fun _ hk => hk.1)⟩, ⟨Kd.V_mono (Kd.R_V (by exact HO649.out)) (fun k_ hk => by (simp [hk]; done))⟩, ⟨by exact Kd.V_mono HO_7.out (fun _ hk => ⟨hk.1.1, hk.1.2⟩)⟩, ⟨by with_reducible exact HB.out⟩⟩
                            · rw [if_neg c28] at H
                              have c28b0 : ((Int.tmod (rd x6_4 0) 2) == 0) = false := beq_eq_false_iff_ne.mpr c28
                              have c28b1 : ((Int.tmod (rd x6_4 0) 2) != 0) = true := bne_iff_ne.mpr c28
                              have H' := Aside0.mk H
                              clear H
                              obtain ⟨Ao32, co32, eo32⟩ := Kd.V_slice HO_6.out
                              subst eo32
                              have p646 : 0 ≤ (0 : Int) := (by omega)
                              have q646 : 0 < (x6_4.length : Int) := of_decide_eq_true (by (with_reducible assumption))
                              obtain ⟨ad646, e646, hx646_0⟩ := Kd.at_int (Kd.V_reads' HO_6.out).2.2 0 p646 q646
                              cases e646
                              have qi646 : (0 < x6_4.length) = True := eq_true (by omega)
                              (try rw [show ((0 : Int)).toNat = 0 from rfl] at hx646_0)
                              (try rw [Addr.add_zero'] at hx646_0)
                              replace p646 := eq_true p646
                              replace q646 := eq_true q646
                              go_wp2
                              go_loopg [7] k4 (fun kq v7 w' => ∃ (x7_5 : List Int), Aside0 (zelligeref03_Gcd.l3 kq y635 x6_4 x7_5 x8_1 = some r) ∧ Aside0 (kq ≤ k4) ∧ Aside0 (Kd.R (Kd.int .i64) 3 w' w.heap.size (fun k_ => (w.heap.size ≤ k_)) v636 y635) ∧ Aside0 (Kd.V (Kd.int .i64) 3 w' w.heap.size (fun k_ => ((P0_ k_ ∨ P1_ k_) ∨ w.heap.size ≤ k_) ∧ some k_ ≠ (v636 : Value).ownBlock) (.slice (some ad646) x6_4.length co32) x6_4) ∧ Aside0 (Kd.V (Kd.int .i64) 3 w' w.heap.size (fun k_ => ((P0_ k_ ∨ P1_ k_) ∨ w.heap.size ≤ k_) ∧ some k_ ≠ (v636 : Value).ownBlock) v7 x7_5) ∧ Aside0 (Below w.heap.size w w'))
                              case atStart => exact ⟨(x7_3), H', ⟨Nat.le_refl _⟩, ⟨by exact HO_5.out⟩, ⟨by exact HO_6.out⟩, ⟨by exact HO_7.out⟩, ⟨by with_reducible exact HB.out⟩⟩
                              case round =>
                                clear H'
                                try clear c27b0
                                try clear c27b1
                                try clear c28
                                try clear c28b0
                                try clear c28b1
                                try clear hx646_0
                                try clear p646
                                try clear q646
                                obtain ⟨x7_5, HA, HK5, HO_5, HO_6, HO_7, HB⟩ := hrel
                                cases gk with
                                | zero => exact absurd HA.out (by simp [zelligeref03_Gcd.l3])
                                | succ k5 =>
                                  have H := HA.out
                                  clear HA
                                  simp only [zelligeref03_Gcd.l3] at H
                                  by_cases c33 : 0 < (x7_5.length : Int)
                                  · rw [if_pos c33] at H
                                    have c33b0 : decide (0 < (x7_5.length : Int)) = true := decide_eq_true c33
                                    have c33b1 : decide (0 < x7_5.length) = true := decide_eq_true (by omega)
                                    clear c33
                                    by_cases c34 : (Int.tmod (rd x7_5 0) 2) = 0
                                    · rw [if_pos c34] at H
                                      have c34b0 : ((Int.tmod (rd x7_5 0) 2) == 0) = true := beq_iff_eq.mpr c34
                                      have c34b1 : ((Int.tmod (rd x7_5 0) 2) != 0) = false := bne_eq_false_iff_eq.mpr c34
                                      clear c34
                                      obtain ⟨t651, A35, H⟩ := bindE H
                                      have H' := Aside0.mk H
                                      clear H
                                      obtain ⟨Ao36, co36, eo36⟩ := Kd.V_slice HO_7.out
                                      subst eo36
                                      have p650 : 0 ≤ (0 : Int) := (by omega)
                                      have q650 : 0 < (x7_5.length : Int) := of_decide_eq_true (by (with_reducible assumption))
                                      obtain ⟨ad650, e650, hx650_0⟩ := Kd.at_int (Kd.V_reads' HO_7.out).2.2 0 p650 q650
                                      cases e650
                                      have qi650 : (0 < x7_5.length) = True := eq_true (by omega)
                                      (try rw [show ((0 : Int)).toNat = 0 from rfl] at hx650_0)
                                      (try rw [Addr.add_zero'] at hx650_0)
                                      replace p650 := eq_true p650
                                      replace q650 := eq_true q650
                                      go_wp2_with (((with_reducible refine gate_callee (f := 62) rfl ?_); refine goesL_ (some 55) rfl rfl Try.func62 (by kernel_rfl) rfl #[.slice (some ad650) x7_5.length co36] rfl (by (try simp only [List.map_toArray, List.map_cons, List.map_nil]); rfl) ?_; (with_reducible refine (zelligeref03_Half.calls k5 _ _ x7_5 t651 _ ?side1 ?side2 A35.out).mono ?_); (case side1 => exact (Kd.V_reads' HO_7.out).2.2); (case side2 => exact (Kd.V_reads' HO_7.out).2.1); rintro e w37 ⟨v652, rfl, ho0, hb⟩; refine ⟨_, rfl, ?_⟩; have n0_ := Aside0.mk (Kd.R_elder' (by exact HO_5.out) (Kd.R_base ho0) hb); have n1_ := Aside0.mk (Kd.V_elder' (by exact HO_6.out) (Kd.R_base ho0) hb); have n2_ := Aside0.mk (Kd.V_elder' (by exact HO_7.out) (Kd.R_base ho0) hb); have n3_ := Aside0.mk (Kd.R_lower (Kd.R_new' (Kd.R_newM (M := fun k_ => (w.heap.size ≤ k_)) ho0 (below_size (by with_reducible exact HB.out)) (fun k_ h_ => h_)) (Kd.R_lt (by exact HO_5.out))) (below_size (by with_reducible exact HB.out))); have n4_ := Aside0.mk (below_step (by with_reducible exact HB.out) hb); clear HO_5; clear HO_6; clear HO_7; clear HB; have HO_5 := n0_; have HO_6 := n1_; have HO_7 := n2_; have HO653 := n3_; have HB := n4_; clear n0_ n1_ n2_ n3_ n4_; (try clear hb); (try clear ho0)))
                                      go_roundg k5
                                      case measure => have := HK1.out; have := HJ10.out; have := HK3.out; have := HK4.out; have := HK5.out; omega
                                      case rel => exact ⟨(t651), H', ⟨by have := HK1.out; have := HJ10.out; have := HK3.out; have := HK4.out; have := HK5.out; omega⟩, ⟨by exact Kd.R_mono HO_5.out (fun _ hk => hk.1)⟩, ⟨by exact Kd.V_mono HO_6.out (fun _ hk => ⟨hk.1.1, hk.1.2⟩)⟩, ⟨Kd.V_mono (Kd.R_V (by exact HO653.out)) (fun k_ hk => by (simp [hk]; done))⟩, ⟨by with_reducible exact HB.out⟩⟩
                                    · rw [if_neg c34] at H
                                      have c34b0 : ((Int.tmod (rd x7_5 0) 2) == 0) = false := beq_eq_false_iff_ne.mpr c34
                                      have c34b1 : ((Int.tmod (rd x7_5 0) 2) != 0) = true := bne_iff_ne.mpr c34
                                      obtain ⟨t654, A38, H⟩ := bindE H
                                      by_cases c39 : t654 < 0
                                      · rw [if_pos c39] at H
                                        have c39b0 : decide (t654 < 0) = true := decide_eq_true c39
                                        clear c39
                                        obtain ⟨t655, A40, H⟩ := bindE H
                                        have H' := Aside0.mk H
                                        clear H
                                        obtain ⟨Ao41, co41, eo41⟩ := Kd.V_slice HO_7.out
                                        subst eo41
                                        have p650 : 0 ≤ (0 : Int) := (by omega)
                                        have q650 : 0 < (x7_5.length : Int) := of_decide_eq_true (by (with_reducible assumption))
                                        obtain ⟨ad650, e650, hx650_0⟩ := Kd.at_int (Kd.V_reads' HO_7.out).2.2 0 p650 q650
                                        cases e650
                                        have qi650 : (0 < x7_5.length) = True := eq_true (by omega)
                                        (try rw [show ((0 : Int)).toNat = 0 from rfl] at hx650_0)
                                        (try rw [Addr.add_zero'] at hx650_0)
                                        replace p650 := eq_true p650
                                        replace q650 := eq_true q650
                                        go_wp2_with (first | ((with_reducible refine gate_callee (f := 38) rfl ?_); refine goesL_ (some 58) rfl rfl Try.func38 (by kernel_rfl) rfl #[.slice (some ad646) x6_4.length co32, .slice (some ad650) x7_5.length co41] rfl (by (try simp only [List.map_toArray, List.map_cons, List.map_nil]); rfl) ?_; (with_reducible refine (zelligeref03_Cmp.calls k5 _ _ x6_4 _ _ x7_5 t654 _ ?side1 ?side2 ?side3 ?side4 A38.out).mono ?_); (case side1 => exact (Kd.V_reads' HO_6.out).2.2); (case side2 => exact (Kd.V_reads' HO_6.out).2.1); (case side3 => exact (Kd.V_reads' HO_7.out).2.2); (case side4 => exact (Kd.V_reads' HO_7.out).2.1); rintro e w' ⟨rfl, ⟨nd, rfl⟩⟩; refine ⟨_, rfl, ?_⟩) | ((with_reducible refine gate_callee (f := 47) rfl ?_); refine goesL_ (some 64) rfl rfl Try.func47 (by kernel_rfl) rfl #[.slice (some ad650) x7_5.length co41, .slice (some ad646) x6_4.length co32] rfl (by (try simp only [List.map_toArray, List.map_cons, List.map_nil]); rfl) ?_; (with_reducible refine (zelligeref03_Sub.calls k5 _ _ x7_5 _ _ x6_4 t655 _ ?side1 ?side2 ?side3 ?side4 A40.out).mono ?_); (case side1 => exact (Kd.V_reads' HO_7.out).2.2); (case side2 => exact (Kd.V_reads' HO_7.out).2.1); (case side3 => exact (Kd.V_reads' HO_6.out).2.2); (case side4 => exact (Kd.V_reads' HO_6.out).2.1); rintro e w42 ⟨v656, rfl, ho0, hb⟩; refine ⟨_, rfl, ?_⟩; have n0_ := Aside0.mk (Kd.R_elder' (by (with_reducible repeat (apply Kd.R_drewN)); exact HO_5.out) (Kd.R_base ho0) hb); have n1_ := Aside0.mk (Kd.V_elder' (by (with_reducible repeat (apply Kd.V_drewN)); exact HO_6.out) (Kd.R_base ho0) hb); have n2_ := Aside0.mk (Kd.V_elder' (by (with_reducible repeat (apply Kd.V_drewN)); exact HO_7.out) (Kd.R_base ho0) hb); have n3_ := Aside0.mk (Kd.R_lower (Kd.R_new' (Kd.R_newM (M := fun k_ => (w.heap.size ≤ k_)) ho0 (below_size (by repeat ((with_reducible first | exact HB.out | apply pw_below_drewN)))) (fun k_ h_ => h_)) (Kd.R_lt (by (with_reducible repeat (apply Kd.R_drewN)); exact HO_5.out))) (below_size (by repeat ((with_reducible first | exact HB.out | apply pw_below_drewN))))); have n4_ := Aside0.mk (below_step (by repeat ((with_reducible first | exact HB.out | apply pw_below_drewN))) hb); clear HO_5; clear HO_6; clear HO_7; clear HB; have HO_5 := n0_; have HO_6 := n1_; have HO_7 := n2_; have HO657 := n3_; have HB := n4_; clear n0_ n1_ n2_ n3_ n4_; (try clear hb); (try clear ho0)))
                                        go_roundg k5
                                        case measure => have := HK1.out; have := HJ10.out; have := HK3.out; have := HK4.out; have := HK5.out; omega
                                        case rel => exact ⟨(t655), (x6_4), H', ⟨by have := HK1.out; have := HJ10.out; have := HK3.out; have := HK4.out; have := HK5.out; omega⟩, ⟨by exact Kd.R_mono HO_5.out (fun _ hk => hk.1)⟩, ⟨Kd.V_mono (Kd.R_V (by exact HO657.out)) (fun k_ hk => by (simp [hk]; done))⟩, ⟨by exact Kd.V_mono HO_6.out (fun _ hk => ⟨hk.1.1, hk.1.2⟩)⟩, ⟨by with_reducible exact HB.out⟩⟩
                                      · rw [if_neg c39] at H
                                        have c39b0 : decide (t654 < 0) = false := decide_eq_false c39
                                        clear c39
                                        obtain ⟨t658, A43, H⟩ := bindE H
                                        have H' := Aside0.mk H
                                        clear H
                                        obtain ⟨Ao44, co44, eo44⟩ := Kd.V_slice HO_7.out
                                        subst eo44
                                        have p650 : 0 ≤ (0 : Int) := (by omega)
                                        have q650 : 0 < (x7_5.length : Int) := of_decide_eq_true (by (with_reducible assumption))
                                        obtain ⟨ad650, e650, hx650_0⟩ := Kd.at_int (Kd.V_reads' HO_7.out).2.2 0 p650 q650
                                        cases e650
                                        have qi650 : (0 < x7_5.length) = True := eq_true (by omega)
                                        (try rw [show ((0 : Int)).toNat = 0 from rfl] at hx650_0)
                                        (try rw [Addr.add_zero'] at hx650_0)
                                        replace p650 := eq_true p650
                                        replace q650 := eq_true q650
                                        go_wp2_with (first | ((with_reducible refine gate_callee (f := 38) rfl ?_); refine goesL_ (some 58) rfl rfl Try.func38 (by kernel_rfl) rfl #[.slice (some ad646) x6_4.length co32, .slice (some ad650) x7_5.length co44] rfl (by (try simp only [List.map_toArray, List.map_cons, List.map_nil]); rfl) ?_; (with_reducible refine (zelligeref03_Cmp.calls k5 _ _ x6_4 _ _ x7_5 t654 _ ?side1 ?side2 ?side3 ?side4 A38.out).mono ?_); (case side1 => exact (Kd.V_reads' HO_6.out).2.2); (case side2 => exact (Kd.V_reads' HO_6.out).2.1); (case side3 => exact (Kd.V_reads' HO_7.out).2.2); (case side4 => exact (Kd.V_reads' HO_7.out).2.1); rintro e w' ⟨rfl, ⟨nd, rfl⟩⟩; refine ⟨_, rfl, ?_⟩) | ((with_reducible refine gate_callee (f := 47) rfl ?_); refine goesL_ (some 64) rfl rfl Try.func47 (by kernel_rfl) rfl #[.slice (some ad646) x6_4.length co32, .slice (some ad650) x7_5.length co44] rfl (by (try simp only [List.map_toArray, List.map_cons, List.map_nil]); rfl) ?_; (with_reducible refine (zelligeref03_Sub.calls k5 _ _ x6_4 _ _ x7_5 t658 _ ?side1 ?side2 ?side3 ?side4 A43.out).mono ?_); (case side1 => exact (Kd.V_reads' HO_6.out).2.2); (case side2 => exact (Kd.V_reads' HO_6.out).2.1); (case side3 => exact (Kd.V_reads' HO_7.out).2.2); (case side4 => exact (Kd.V_reads' HO_7.out).2.1); rintro e w45 ⟨v659, rfl, ho0, hb⟩; refine ⟨_, rfl, ?_⟩; have n0_ := Aside0.mk (Kd.R_elder' (by (with_reducible repeat (apply Kd.R_drewN)); exact HO_5.out) (Kd.R_base ho0) hb); have n1_ := Aside0.mk (Kd.V_elder' (by (with_reducible repeat (apply Kd.V_drewN)); exact HO_6.out) (Kd.R_base ho0) hb); have n2_ := Aside0.mk (Kd.V_elder' (by (with_reducible repeat (apply Kd.V_drewN)); exact HO_7.out) (Kd.R_base ho0) hb); have n3_ := Aside0.mk (Kd.R_lower (Kd.R_new' (Kd.R_newM (M := fun k_ => (w.heap.size ≤ k_)) ho0 (below_size (by repeat ((with_reducible first | exact HB.out | apply pw_below_drewN)))) (fun k_ h_ => h_)) (Kd.R_lt (by (with_reducible repeat (apply Kd.R_drewN)); exact HO_5.out))) (below_size (by repeat ((with_reducible first | exact HB.out | apply pw_below_drewN))))); have n4_ := Aside0.mk (below_step (by repeat ((with_reducible first | exact HB.out | apply pw_below_drewN))) hb); clear HO_5; clear HO_6; clear HO_7; clear HB; have HO_5 := n0_; have HO_6 := n1_; have HO_7 := n2_; have HO660 := n3_; have HB := n4_; clear n0_ n1_ n2_ n3_ n4_; (try clear hb); (try clear ho0)))
                                        go_roundg k5
                                        case measure => have := HK1.out; have := HJ10.out; have := HK3.out; have := HK4.out; have := HK5.out; omega
                                        case rel => exact ⟨(t658), (x7_5), H', ⟨by have := HK1.out; have := HJ10.out; have := HK3.out; have := HK4.out; have := HK5.out; omega⟩, ⟨by exact Kd.R_mono HO_5.out (fun _ hk => hk.1)⟩, ⟨Kd.V_mono (Kd.R_V (by exact HO660.out)) (fun k_ hk => by (simp [hk]; done))⟩, ⟨by exact Kd.V_mono HO_7.out (fun _ hk => ⟨hk.1.1, hk.1.2⟩)⟩, ⟨by with_reducible exact HB.out⟩⟩
                                  · rw [if_neg c33] at H
                                    exact absurd H (by simp)
                          · rw [if_neg c27] at H
                            exact absurd H (by simp)
                    · rw [if_neg c25] at H
                      have c25b0 : decide (0 < (x6_3.length : Int)) = false := decide_eq_false c25
                      have c25b1 : decide (0 < x6_3.length) = false := decide_eq_false (by omega)
                      clear c25
                      have H' := Aside0.mk H
                      clear H
                      obtain ⟨Ao46, co46, eo46⟩ := Kd.V_slice HO_6.out
                      subst eo46
                      go_wp2
                      go_loopg [5, 9] k3 (fun kq v5 v9 w' => ∃ (x5_4 : List Int) (x9_4 : Int), v9 = .int .i64 x9_4 ∧ Aside0 (zelligeref03_Gcd.l4 kq x5_4 x7_3 x8_1 x9_4 = some r) ∧ Aside0 (kq ≤ k3) ∧ Aside0 (Kd.R (Kd.int .i64) 3 w' w.heap.size (fun k_ => (w.heap.size ≤ k_)) v5 x5_4) ∧ Aside0 (Kd.V (Kd.int .i64) 3 w' w.heap.size (fun k_ => ((P0_ k_ ∨ P1_ k_) ∨ w.heap.size ≤ k_) ∧ some k_ ≠ (v5 : Value).ownBlock) u7 x7_3) ∧ Aside0 (Below w.heap.size w w'))
                      case atStart => exact ⟨(y635), (0), (by rfl), H', ⟨Nat.le_refl _⟩, ⟨by exact HO_5.out⟩, ⟨by exact HO_7.out⟩, ⟨by with_reducible exact HB.out⟩⟩
                      case round =>
                        clear H'
                        try clear c25b0
                        try clear c25b1
                        obtain ⟨x5_4, x9_4, rfl, HA, HK4, HO_5, HO_7, HB⟩ := hrel
                        cases gk with
                        | zero => exact absurd HA.out (by simp [zelligeref03_Gcd.l4])
                        | succ k4 =>
                          have H := HA.out
                          clear HA
                          simp only [zelligeref03_Gcd.l4] at H
                          by_cases c47 : x9_4 < x8_1
                          · rw [if_pos c47] at H
                            have c47b0 : decide (x9_4 < x8_1) = true := decide_eq_true c47
                            clear c47
                            obtain ⟨t661, A48, H⟩ := bindE H
                            have H' := Aside0.mk H
                            clear H
                            obtain ⟨Ao49, co49, eo49⟩ := Kd.R_slice HO_5.out
                            subst eo49
                            go_wp2_with (((with_reducible refine gate_callee (f := 44) rfl ?_); refine goesL_ (some 72) rfl rfl Try.func44 (by kernel_rfl) rfl #[.slice Ao49 x5_4.length co49, .slice Ao49 x5_4.length co49] rfl (by (try simp only [List.map_toArray, List.map_cons, List.map_nil]); rfl) ?_; (with_reducible refine (zelligeref03_Add.calls k4 _ _ x5_4 _ _ x5_4 t661 _ ?side1 ?side2 ?side3 ?side4 A48.out).mono ?_); (case side1 => exact (Kd.R_reads' HO_5.out).2.2); (case side2 => exact (Kd.R_reads' HO_5.out).2.1); (case side3 => exact (Kd.R_reads' HO_5.out).2.2); (case side4 => exact (Kd.R_reads' HO_5.out).2.1); rintro e w50 ⟨v662, rfl, ho0, hb⟩; refine ⟨_, rfl, ?_⟩; have n0_ := Aside0.mk (Kd.R_elder' (by exact HO_5.out) (Kd.R_base ho0) hb); have n1_ := Aside0.mk (Kd.V_elder' (by exact HO_7.out) (Kd.R_base ho0) hb); have n2_ := Aside0.mk (Kd.R_lower (Kd.R_new' (Kd.R_newM (M := fun k_ => (w.heap.size ≤ k_)) ho0 (below_size (by with_reducible exact HB.out)) (fun k_ h_ => h_)) (Kd.R_lt (by exact HO_5.out))) (below_size (by with_reducible exact HB.out))); have n3_ := Aside0.mk (below_step (by with_reducible exact HB.out) hb); clear HO_5; clear HO_7; clear HB; have HO_5 := n0_; have HO_7 := n1_; have HO663 := n2_; have HB := n3_; clear n0_ n1_ n2_ n3_; (try clear hb); (try clear ho0)))
                            go_roundg k4
                            case measure => have := HK1.out; have := HJ10.out; have := HK3.out; have := HK4.out; omega
                            case rel => exact ⟨(t661), (wrap64 (x9_4 + 1)), (by rfl), H', ⟨by have := HK1.out; have := HJ10.out; have := HK3.out; have := HK4.out; omega⟩, ⟨by exact Kd.R_mono HO663.out (fun _ hk => hk.1.1)⟩, ⟨by exact Kd.V_mono HO_7.out (fun _ hk => ⟨hk.1.1, hk.2⟩)⟩, ⟨by with_reducible exact HB.out⟩⟩
                          · rw [if_neg c47] at H
                            have c47b0 : decide (x9_4 < x8_1) = false := decide_eq_false c47
                            clear c47
                            obtain ⟨t664, A51, H⟩ := bindE H
                            obtain rfl := Option.some.inj H
                            obtain ⟨Ao52, co52, eo52⟩ := Kd.V_slice HO_7.out
                            subst eo52
                            obtain ⟨Ao53, co53, eo53⟩ := Kd.R_slice HO_5.out
                            subst eo53
                            go_wp2_with (((with_reducible refine gate_callee (f := 46) rfl ?_); refine goesL_ (some 75) rfl rfl Try.func46 (by kernel_rfl) rfl #[.slice Ao52 x7_3.length co52, .slice Ao53 x5_4.length co53] rfl (by (try simp only [List.map_toArray, List.map_cons, List.map_nil]); rfl) ?_; (with_reducible refine (zelligeref03_Mul.calls k4 _ _ x7_3 _ _ x5_4 t664 _ ?side1 ?side2 ?side3 ?side4 A51.out).mono ?_); (case side1 => exact (Kd.V_reads' HO_7.out).2.2); (case side2 => exact (Kd.V_reads' HO_7.out).2.1); (case side3 => exact (Kd.R_reads' HO_5.out).2.2); (case side4 => exact (Kd.R_reads' HO_5.out).2.1); rintro e w54 ⟨v665, rfl, ho0, hb⟩; refine ⟨_, rfl, ?_⟩; have n0_ := Aside0.mk (Kd.R_elder' (by exact HO_5.out) (Kd.R_base ho0) hb); have n1_ := Aside0.mk (Kd.V_elder' (by exact HO_7.out) (Kd.R_base ho0) hb); have n2_ := Aside0.mk (Kd.R_lower (Kd.R_new' (Kd.R_newM (M := fun k_ => (w.heap.size ≤ k_)) ho0 (below_size (by with_reducible exact HB.out)) (fun k_ h_ => h_)) (Kd.R_lt (by exact HO_5.out))) (below_size (by with_reducible exact HB.out))); have n3_ := Aside0.mk (below_step (by with_reducible exact HB.out) hb); clear HO_5; clear HO_7; clear HB; have HO_5 := n0_; have HO_7 := n1_; have HO666 := n2_; have HB := n3_; clear n0_ n1_ n2_ n3_; (try clear hb); (try clear ho0)))
                            go_ret
                            exact ⟨_, by rfl, Kd.V_mono (Kd.R_V (by exact HO666.out)) (fun k_ hk => by (simp [hk]; done)), by with_reducible exact HB.out⟩

/-! ### zelligeref03_Bits: function 40 -/
def zelligeref03_Bits.l0 : Nat → List Int → Int → Option (Int)
  | 0, _, _ => none
  | k + 1, x0, x3 => if (x0.length : Int) > 0 then ((zelligeref03_Half.f k x0).bind fun t735 => (zelligeref03_Bits.l0 k t735 (wrap64 (x3 + 1)))) else (some x3)
def zelligeref03_Bits.f (k : Nat) (l0 : List Int) : Option (Int) := zelligeref03_Bits.l0 k l0 0
theorem zelligeref03_Bits.mono_l : ∀ k, (∀ y0 y1, LeO (zelligeref03_Bits.l0 k y0 y1) (zelligeref03_Bits.l0 (k + 1) y0 y1))
  | 0 => fun _ _ r h => by simp [zelligeref03_Bits.l0] at h
  | k + 1 => by
    have ih0 := zelligeref03_Bits.mono_l k
    · intro y0 y1
      unfold zelligeref03_Bits.l0
      repeat' first
      | (with_reducible exact ih0 _ _)
      | (with_reducible exact zelligeref03_Half.mono _ _)
      | (with_reducible exact LeO.refl _)
      | (with_reducible refine LeO.ite ?_ ?_)
      | (with_reducible refine LeO.bind ?_ (fun _ => ?_))
theorem zelligeref03_Bits.mono : ∀ a0 k, LeO (zelligeref03_Bits.f k a0) (zelligeref03_Bits.f (k + 1) a0) := by
  intro a0 k
  have ih0 := zelligeref03_Bits.mono_l k
  unfold zelligeref03_Bits.f
  repeat' first
      | (with_reducible exact ih0 _ _)
set_option maxHeartbeats 8000000 in
set_option maxRecDepth 100000 in
theorem zelligeref03_Bits.calls (k : Nat) (P0_ : Nat → Prop) (A0 : Option Addr) (c0 : Nat) (l0 : List Int) (r : Int) (w : World) (hs0 : Kd.V (Kd.int .i64) 3 w w.heap.size (fun k_ => P0_ k_) (.slice A0 l0.length c0) l0) (h : zelligeref03_Bits.f k l0 = some r) :
    Calls Try.prog 40 #[.slice A0 l0.length c0] w fun e w' => e = .returned (.int .i64 r) ∧ Below w.heap.size w w' := by
  have HO0 := Aside0.mk (show Kd.V (Kd.int .i64) 3 w w.heap.size (fun k_ => (P0_ k_ ∨ w.heap.size ≤ k_)) (.slice A0 l0.length c0) l0 from Kd.V_mono hs0 (fun k_ hk => .inl hk))
  have HB := Aside0.mk (Below.refl w.heap.size w)
  have H : (zelligeref03_Bits.l0 k l0 0) = some r := h
  clear h
  have H' := Aside0.mk H
  clear H
  go_enter Try.func40, Try.ntmps40
  go_wp2
  go_loopg [0, 3] k (fun kq v0 v3 w' => ∃ (x0_1 : List Int) (x3_1 : Int), v3 = .int .i64 x3_1 ∧ Aside0 (zelligeref03_Bits.l0 kq x0_1 x3_1 = some r) ∧ Aside0 (kq ≤ k) ∧ Aside0 (Kd.V (Kd.int .i64) 3 w' w.heap.size (fun k_ => (P0_ k_ ∨ w.heap.size ≤ k_)) v0 x0_1) ∧ Aside0 (Below w.heap.size w w'))
  case atStart => exact ⟨(l0), (0), (by rfl), H', ⟨Nat.le_refl _⟩, ⟨by exact HO0.out⟩, ⟨by with_reducible exact HB.out⟩⟩
  case round =>
    clear H'
    obtain ⟨x0_1, x3_1, rfl, HA, HK1, HO_0, HB⟩ := hrel
    cases gk with
    | zero => exact absurd HA.out (by simp [zelligeref03_Bits.l0])
    | succ k1 =>
      have H := HA.out
      clear HA
      simp only [zelligeref03_Bits.l0] at H
      by_cases c2 : (x0_1.length : Int) > 0
      · rw [if_pos c2] at H
        have c2b0 : decide (0 < (x0_1.length : Int)) = true := decide_eq_true c2
        have c2b1 : decide (0 < x0_1.length) = true := decide_eq_true (by omega)
        clear c2
        obtain ⟨t735, A3, H⟩ := bindE H
        have H' := Aside0.mk H
        clear H
        obtain ⟨Ao4, co4, eo4⟩ := Kd.V_slice HO_0.out
        subst eo4
        go_wp2_with (((with_reducible refine gate_callee (f := 62) rfl ?_); refine goesL_ (some 8) rfl rfl Try.func62 (by kernel_rfl) rfl #[.slice Ao4 x0_1.length co4] rfl (by (try simp only [List.map_toArray, List.map_cons, List.map_nil]); rfl) ?_; (with_reducible refine (zelligeref03_Half.calls k1 _ _ x0_1 t735 _ ?side1 ?side2 A3.out).mono ?_); (case side1 => exact (Kd.V_reads' HO_0.out).2.2); (case side2 => exact (Kd.V_reads' HO_0.out).2.1); rintro e w5 ⟨v736, rfl, ho0, hb⟩; refine ⟨_, rfl, ?_⟩; have n0_ := Aside0.mk (Kd.V_elder' (by exact HO_0.out) (Kd.R_base ho0) hb); have n1_ := Aside0.mk (Kd.R_lower (Kd.R_newM (M := fun k_ => (w.heap.size ≤ k_)) ho0 (below_size (by with_reducible exact HB.out)) (fun k_ h_ => h_)) (below_size (by with_reducible exact HB.out))); have n2_ := Aside0.mk (below_step (by with_reducible exact HB.out) hb); clear HO_0; clear HB; have HO_0 := n0_; have HO737 := n1_; have HB := n2_; clear n0_ n1_ n2_; (try clear hb); (try clear ho0)))
        go_roundg k1
        case measure => have := HK1.out; omega
        case rel => exact ⟨(t735), (wrap64 (x3_1 + 1)), (by rfl), H', ⟨by have := HK1.out; omega⟩, ⟨Kd.V_mono (Kd.R_V (by exact HO737.out)) (fun k_ hk => by (simp [hk]; done))⟩, ⟨by with_reducible exact HB.out⟩⟩
      · rw [if_neg c2] at H
        have c2b0 : decide (0 < (x0_1.length : Int)) = false := decide_eq_false c2
        have c2b1 : decide (0 < x0_1.length) = false := decide_eq_false (by omega)
        clear c2
        obtain rfl := Option.some.inj H
        obtain ⟨Ao6, co6, eo6⟩ := Kd.V_slice HO_0.out
        subst eo6
        go_wp2
        go_ret
        exact ⟨by rfl, by with_reducible exact HB.out⟩

end Go.Proofs.Ytafhcchjjlbojaa.ZNat
