-- printed by zprint.py, a program of this session's
import Derived.Test.YtafhcchjjlbojaaZNat0
import Derived.Test.YtafhcchjjlbojaaZNatgLaw3
import Derived.Test.YtafhcchjjlbojaaZNatgParse
import Derived.Test.YtafhcchjjlbojaaZNatgRParse
import Derived.Test.YtafhcchjjlbojaaZNatgRTrim
namespace Go.Proofs.Ytafhcchjjlbojaa.ZNat
open Go.RowKit Go.Proofs.YtafhcchjjlbojaaW.PrintWords Go.Proofs.YtafhcchjjlbojaaW.PrintLast Go.Proofs.YtafhcchjjlbojaaW.PrintMore
set_option linter.unusedVariables false
set_option linter.unusedSimpArgs false

/-! ### zelligelaw03_NatParses: function 9 -/
def zelligelaw03_NatParses.j0 : Nat → ByteArray → Option (Bool)
  | 0, _ => none
  | k + 1, x0 => (nat_Parse.f k x0).bind fun bt599 => ((zelligeref03_Parse.f k x0).bind fun bt603 => ((zelligeref03_Same.f k bt599.1 bt603.1).bind fun t607 => (if t607 = true then (if bt599.2 = bt603.2 then ((zelligelaw03_lives.f k).bind fun t608 => (some t608)) else (some false)) else (some false))))
def zelligelaw03_NatParses.f (k : Nat) (a0 : ByteArray) : Option (Bool) := if (a0.size : Int) > 2100 then (if 0 ≤ 2100 then (if 2100 ≤ (a0.size : Int) then (zelligelaw03_NatParses.j0 k (a0.extract 0 2100)) else (none)) else (none)) else (zelligelaw03_NatParses.j0 k a0)
theorem zelligelaw03_NatParses.mono_l : ∀ k, (∀ y0, LeO (zelligelaw03_NatParses.j0 k y0) (zelligelaw03_NatParses.j0 (k + 1) y0))
  | 0 => fun _ r h => by simp [zelligelaw03_NatParses.j0] at h
  | k + 1 => by
    have ih0 := zelligelaw03_NatParses.mono_l k
    · intro y0
      unfold zelligelaw03_NatParses.j0
      repeat' first
      | (with_reducible exact nat_Parse.mono _ _)
      | (with_reducible exact zelligelaw03_lives.mono _)
      | (with_reducible exact zelligeref03_Parse.mono _ _)
      | (with_reducible exact zelligeref03_Same.mono _ _ _)
      | (with_reducible exact LeO.refl _)
      | (with_reducible refine LeO.ite ?_ ?_)
      | (with_reducible refine LeO.bind ?_ (fun _ => ?_))
theorem zelligelaw03_NatParses.mono : ∀ a0 k, LeO (zelligelaw03_NatParses.f k a0) (zelligelaw03_NatParses.f (k + 1) a0) := by
  intro a0 k
  have ih0 := zelligelaw03_NatParses.mono_l k
  unfold zelligelaw03_NatParses.f
  repeat' first
      | (with_reducible exact ih0 _)
      | (with_reducible exact LeO.refl _)
      | (with_reducible refine LeO.ite ?_ ?_)
set_option maxHeartbeats 8000000 in
set_option maxRecDepth 100000 in
theorem zelligelaw03_NatParses.calls (k : Nat) (a0 : ByteArray) (r : Bool) (w : World) (h : zelligelaw03_NatParses.f k a0 = some r) (hT : Aside0 (r = true)) :
    Calls Try.prog 9 #[.string a0] w fun e w' => e = .returned (.bool r) ∧ Below w.heap.size w w' := by
  have HB := Aside0.mk (Below.refl w.heap.size w)
  have H : (if (a0.size : Int) > 2100 then (if 0 ≤ 2100 then (if 2100 ≤ (a0.size : Int) then (zelligelaw03_NatParses.j0 k (a0.extract 0 2100)) else (none)) else (none)) else (zelligelaw03_NatParses.j0 k a0)) = some r := h
  clear h
  have HC2 := Aside0.mk H
  clear H
  go_enter Try.func9, Try.ntmps9
  go_upto_if 9 with (fail)
  go_cut [0] (fun v0 wc => ∃ (kq : Nat) (x0_1 : ByteArray), v0 = .string x0_1 ∧ Aside0 (zelligelaw03_NatParses.j0 kq x0_1 = some r) ∧ Aside0 (kq ≤ k) ∧ Aside0 (Below w.heap.size w wc))
  case first =>
    have H := HC2.out
    clear HC2
    by_cases c3 : (a0.size : Int) > 2100
    · rw [if_pos c3] at H
      have c3b0 : decide (2100 < (a0.size : Int)) = true := decide_eq_true c3
      have c3b1 : decide (2100 < a0.size) = true := decide_eq_true (by omega)
      clear c3
      (rw [c3b0])
      by_cases c4 : 0 ≤ 2100
      · rw [if_pos c4] at H
        have c4b0 := eq_true c4
        have c4b1 : decide (0 ≤ 2100) = true := decide_eq_true c4
        clear c4
        by_cases c5 : 2100 ≤ (a0.size : Int)
        · rw [if_pos c5] at H
          have c5b0 := eq_true c5
          have c5b1 : decide (2100 ≤ (a0.size : Int)) = true := decide_eq_true c5
          clear c5
          have H' := Aside0.mk H
          clear H
          go_wp2
          go_meet
          case rel => exact ⟨_, (a0.extract 0 2100), (by rfl), H', ⟨by omega⟩, ⟨by with_reducible exact HB.out⟩⟩
        · rw [if_neg c5] at H
          exact absurd H (by simp)
      · rw [if_neg c4] at H
        exact absurd H (by simp)
    · rw [if_neg c3] at H
      have c3b0 : decide (2100 < (a0.size : Int)) = false := decide_eq_false c3
      have c3b1 : decide (2100 < a0.size) = false := decide_eq_false (by omega)
      clear c3
      (rw [c3b0])
      have H' := Aside0.mk H
      clear H
      go_wp2
      go_meet
      case rel => exact ⟨_, (a0), (by rfl), H', ⟨by omega⟩, ⟨by with_reducible exact HB.out⟩⟩
  case rest =>
    clear HC2
    obtain ⟨kq, x0_1, rfl, HA, HJ1, HB⟩ := hcut
    cases kq with
    | zero => exact absurd HA.out (by simp [zelligelaw03_NatParses.j0])
    | succ kj1 =>
      have H := HA.out
      clear HA
      simp only [zelligelaw03_NatParses.j0] at H
      obtain ⟨⟨t599, t600⟩, A6, H⟩ := bindE H
      replace H : ((zelligeref03_Parse.f kj1 x0_1).bind fun bt603 => ((zelligeref03_Same.f kj1 t599 bt603.1).bind fun t607 => (if t607 = true then (if t600 = bt603.2 then ((zelligelaw03_lives.f kj1).bind fun t608 => (some t608)) else (some false)) else (some false)))) = some r := H
      obtain ⟨⟨t603, t604⟩, A7, H⟩ := bindE H
      replace H : ((zelligeref03_Same.f kj1 t599 t603).bind fun t607 => (if t607 = true then (if t600 = t604 then ((zelligelaw03_lives.f kj1).bind fun t608 => (some t608)) else (some false)) else (some false))) = some r := H
      obtain ⟨t607, A8, H⟩ := bindE H
      by_cases c9 : t607 = true
      · subst c9
        rw [if_pos rfl] at H
        by_cases c10 : t600 = t604
        · rw [if_pos c10] at H
          have c10b0 : (t600 == t604) = true := beq_iff_eq.mpr c10
          have c10b1 : (t600 != t604) = false := bne_eq_false_iff_eq.mpr c10
          clear c10
          obtain ⟨t608, A11, H⟩ := bindE H
          obtain rfl := Option.some.inj H
          go_wp2_with (first | ((with_reducible refine gate_callee (f := 31) rfl ?_); refine goesL_ (some 14) rfl rfl Try.func31 (by kernel_rfl) rfl #[.string x0_1] rfl (by (try simp only [List.map_toArray, List.map_cons, List.map_nil]); rfl) ?_; (with_reducible refine (nat_Parse.calls kj1 x0_1 t599 t600 _ A6.out).mono ?_); rintro e w12 ⟨v601, rfl, ho0, hb⟩; refine ⟨_, rfl, ?_⟩; have n0_ := Aside0.mk (Kd.R_lower ho0 (below_size (by with_reducible exact HB.out))); have n1_ := Aside0.mk (below_step (by with_reducible exact HB.out) hb); clear HB; have HO602 := n0_; have HB := n1_; clear n0_ n1_; (try clear hb); (try clear ho0)) | ((with_reducible refine gate_callee (f := 34) rfl ?_); refine goesL_ (some 19) rfl rfl Try.func34 (by kernel_rfl) rfl #[.string x0_1] rfl (by (try simp only [List.map_toArray, List.map_cons, List.map_nil]); rfl) ?_; (with_reducible refine (zelligeref03_Parse.calls kj1 x0_1 t603 t604 _ A7.out).mono ?_); rintro e w13 ⟨v605, rfl, ho0, hb⟩; refine ⟨_, rfl, ?_⟩; have n0_ := Aside0.mk (Kd.R_below (by exact HO602.out) hb); have n1_ := Aside0.mk (Kd.R_lower ho0 (below_size (by with_reducible exact HB.out))); have n2_ := Aside0.mk (below_step (by with_reducible exact HB.out) hb); clear HO602; clear HB; have HO602 := n0_; have HO606 := n1_; have HB := n2_; clear n0_ n1_ n2_; (try clear hb); (try clear ho0); obtain ⟨Ao14, co14, eo14⟩ := Kd.R_slice HO602.out; subst eo14; obtain ⟨Ao15, co15, eo15⟩ := Kd.R_slice HO606.out; subst eo15) | ((with_reducible refine gate_callee (f := 29) rfl ?_); refine goesL_ (some 24) rfl rfl Try.func29 (by kernel_rfl) rfl #[.slice Ao14 t599.length co14, .slice Ao15 t603.length co15] rfl (by (try simp only [List.map_toArray, List.map_cons, List.map_nil]); rfl) ?_; (with_reducible refine (zelligeref03_Same.calls kj1 _ _ t599 _ _ t603 true _ ?side1 ?side2 ?side3 ?side4 A8.out).mono ?_); (case side1 => exact (Kd.R_reads' HO602.out).2.2); (case side2 => exact (Kd.R_reads' HO602.out).2.1); (case side3 => exact (Kd.R_reads' HO606.out).2.2); (case side4 => exact (Kd.R_reads' HO606.out).2.1); rintro e w16 ⟨rfl, hb⟩; refine ⟨_, rfl, ?_⟩; have n0_ := Aside0.mk (Kd.R_below (by exact HO602.out) hb); have n1_ := Aside0.mk (Kd.R_below (by exact HO606.out) hb); have n2_ := Aside0.mk (below_step (by with_reducible exact HB.out) hb); clear HO602; clear HO606; clear HB; have HO602 := n0_; have HO606 := n1_; have HB := n2_; clear n0_ n1_ n2_; (try clear hb)) | (go_at_call 27; (with_reducible refine (zelligelaw03_lives.calls kj1  t608 _ A11.out).mono ?_); rintro e w17 ⟨rfl, hb⟩; have n0_ := Aside0.mk (Kd.R_below (by exact HO602.out) hb); have n1_ := Aside0.mk (Kd.R_below (by exact HO606.out) hb); have n2_ := Aside0.mk (below_step (by with_reducible exact HB.out) hb); clear HO602; clear HO606; clear HB; have HO602 := n0_; have HO606 := n1_; have HB := n2_; clear n0_ n1_ n2_; (try clear hb)))
          go_ret
          exact ⟨by rfl, by with_reducible exact HB.out⟩
        · rw [if_neg c10] at H
          have c10b0 : (t600 == t604) = false := beq_eq_false_iff_ne.mpr c10
          have c10b1 : (t600 != t604) = true := bne_iff_ne.mpr c10
          exact absurd (Option.some.inj (H.trans (congrArg some hT.out))) (by decide)
      · replace c9 := Bool.eq_false_iff.mpr c9
        subst c9
        rw [if_neg (show ¬ (false = true) by decide)] at H
        exact absurd (Option.some.inj (H.trans (congrArg some hT.out))) (by decide)

/-- THE ONE PURE STATEMENT of zelligelaw03_NatParses: yours. -/
def zelligelaw03_NatParses.Pure : Prop := ∀ (a0 : ByteArray), a0.size ≤ 140737488351232 → ∃ k, zelligelaw03_NatParses.f k a0 = some true
theorem zelligelaw03_NatParses.walk (P : zelligelaw03_NatParses.Pure) (a0 : ByteArray) (w : World) (w0 : a0.size ≤ 140737488351232) :
    Calls Try.prog 9 #[.string a0] w fun e w' => e = .returned (.bool true) ∧ Below w.heap.size w w' := by
  obtain ⟨k, h⟩ := P a0 w0
  refine (zelligelaw03_NatParses.calls k a0 true w h ⟨rfl⟩).mono ?_
  rintro e w' ⟨rfl, hd⟩
  exact ⟨rfl, hd⟩

end Go.Proofs.Ytafhcchjjlbojaa.ZNat
